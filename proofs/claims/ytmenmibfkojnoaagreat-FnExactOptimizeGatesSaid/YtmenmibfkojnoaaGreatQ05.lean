/- Contracts of IsValidTableau (spec), for valid tableaus. Contracts of IsValidTableau (impl), for valid tableaus. The boxes of a function that makes a tableau row by row. Nothing is asked. -/
import Derived.Test.YtmenmibfkojnoaaGreatQ04
set_option maxHeartbeats 16000000
namespace Go.Proofs.YtmenmibfkojnoaaGreat
open Go.RowKit
set_option linter.unusedVariables false
theorem okT_at {n k : Nat} {r : List Pq} {a : Pq} (h : okT n r) (ha : r[k]? = some a) : okQn n a = true /\ herQ a = true := h.2.1 a (List.mem_of_getElem? ha)
set_option maxRecDepth 100000 in
theorem s_IsTab (n m c : Nat) (A : Option Addr) (r : List Pq) (w : World) (hn : 1 <= n /\ n <= 4) (hr : RdG w A m (pgs n r)) (hok : okT n r) : Calls Tryz.prog 149 #[.agg #[.int .i64 (n : Nat), .slice A m c]] w fun e w' => e = .returned (.bool true) /\ Below w.heap.size w w' := by
 have hm : m = 2 * n := by rw [<- hr.1, pgs_len, hok.1]
 obtain ⟨b, off, rfl⟩ := hr.first (by omega)
 have hmi : (m : Int) = 2 * (n : Int) := by omega
 have T0 := zH (show TBx w w.heap.size n (some ⟨b, off, none⟩) m c r (w.alloc (.cells #[.int .i64 (n : Nat), .slice (some ⟨b, off, none⟩) m c] 73)) from ⟨Bx.new _ _ _, hr.alloc _, (zW).alloc zR _, zR⟩)
 have HR := zH hok
 have HL := zH (show r.length = m by rw [hok.1, hm])
 have HI := zH (show inB (n : Int) 1 4 = true from inB_t (by omega) (by omega))
 have HM := zH hm
 have hm8 : m <= 8 := by omega
 clear hr hok hm
 obtain ⟨t0, t1⟩ := T0.out.cells
 go_enter Tryz.func149, Tryz.ntmps149
 go_wp2_with fail
 refine (s_in _ _ _ _).mono ?_
 rintro e w1 ⟨rfl, rfl⟩
 rw [HI.out]
 go_wp2_with fail
 go_loopg [3] m (fun q i wr => ∃ k : Nat, k + q = m /\ i = .int .i64 k /\ TBx w w.heap.size n (some ⟨b, off, none⟩) m c r wr)
 case atStart => exact ⟨0, by omega, rfl, T0.out⟩
 case round =>
  clear T0 t0 t1
  obtain ⟨k, hk, rfl, hT⟩ := hrel
  have T1 := zH hT
  clear hT
  obtain ⟨t0, t1⟩ := T1.out.cells
  by_cases hlt : k < m
  ·obtain ⟨a, ha⟩ := get_lt (l := r) (k := k) (by rw [HL.out]; exact hlt)
   have HA := zH ha
   obtain ⟨hb, c0, c1, c2, c3⟩ := T1.out.row ha
   obtain ⟨ok1, ok2⟩ := okT_at HR.out ha
   have OK := zH ok1
   have OH := zH ok2
   clear ha ok1 ok2
   go_wp2_with fail
   have TD := T1.out.drew
   go_region_held3 (fun w' => (w'.cell? ⟨w.heap.size, 0, none⟩ = some (.int .i64 ((n : Nat) : Int)) /\ w'.cell? ⟨w.heap.size, 1, none⟩ = some (.slice (some ⟨b, off, none⟩) m c)) /\ (w'.cell? ⟨b, off + k * 4, none⟩ = some (.int .i64 ((n : Nat) : Int)) /\ w'.cell? ⟨b, off + k * 4 + 1, none⟩ = some (.int .i64 ((a.x : Nat) : Int)) /\ w'.cell? ⟨b, off + k * 4 + 2, none⟩ = some (.int .i64 ((a.z : Nat) : Int)) /\ w'.cell? ⟨b, off + k * 4 + 3, none⟩ = some (.int .i64 ((a.p : Nat) : Int))))
    (first | exact ⟨⟨t0, t1⟩, c0, c1, c2, c3⟩ | exact ⟨T2.cells, (T2.row HA.out).2⟩ | go_keep)
    (first
     |(go_at_call 182; refine (s_HerPau n a _ hn OK.out).mono ?_; rintro e w2 ⟨rfl, b2⟩; rw [OH.out]; have T2 := TD.below b2)
     |fail)
   clear t0 t1 c0 c1 c2 c3 hb
   go_wp2_with fail
   obtain ⟨gm, rfl⟩ : ∃ x, x = gk := ⟨_, rfl⟩
   go_loopg [4] k (fun q i wr => ∃ j : Nat, j + q = k /\ i = .int .i64 j /\ TBx w w.heap.size n (some ⟨b, off, none⟩) m c r wr)
   case atStart => exact ⟨0, by omega, rfl, T2⟩
   case round =>
    clear T2 TD
    obtain ⟨j, hj, rfl, hT⟩ := hrel
    have T3 := zH hT
    clear hT
    obtain ⟨t0, t1⟩ := T3.out.cells
    by_cases hlt2 : j < k
    ·obtain ⟨d, hd⟩ := get_lt (l := r) (k := j) (by rw [HL.out]; omega)
     have HD := zH hd
     obtain ⟨hb, d0, d1, d2, d3⟩ := T3.out.row hd
     obtain ⟨_, c0, c1, c2, c3⟩ := T3.out.row HA.out
     have OD := zH (okT_at HR.out hd).1
     have CQ := zH (HR.out.2.2 j k d a hlt2 hd HA.out)
     clear hd
     have BD := T3.out.drew
     have jm : (j : Int) < 2 * (n : Int) := by omega
     have km : (k : Int) < 2 * (n : Int) := by omega
     have jm' : (j : Int) < (m : Int) := by omega
     have jn : IntKind.i64.wrap ((j : Int) + (n : Int)) = (j : Int) + (n : Int) := i64T (by omega) (by omega)
     by_cases hkj : k = j + n
     ·have CQ2 := zH (show comQ d a = false by rw [CQ.out]; simp [hkj])
      have hke : ((k : Int) == (j : Int) + (n : Int)) = true := by simp; omega
      clear CQ hkj
      go_wp2_with fail
      go_region_held3 (fun w' => (w'.cell? ⟨w.heap.size, 0, none⟩ = some (.int .i64 ((n : Nat) : Int)) /\ w'.cell? ⟨w.heap.size, 1, none⟩ = some (.slice (some ⟨b, off, none⟩) m c)) /\ ((w'.cell? ⟨b, off + j * 4, none⟩ = some (.int .i64 ((n : Nat) : Int)) /\ w'.cell? ⟨b, off + j * 4 + 1, none⟩ = some (.int .i64 ((d.x : Nat) : Int)) /\ w'.cell? ⟨b, off + j * 4 + 2, none⟩ = some (.int .i64 ((d.z : Nat) : Int)) /\ w'.cell? ⟨b, off + j * 4 + 3, none⟩ = some (.int .i64 ((d.p : Nat) : Int))) /\ (w'.cell? ⟨b, off + k * 4, none⟩ = some (.int .i64 ((n : Nat) : Int)) /\ w'.cell? ⟨b, off + k * 4 + 1, none⟩ = some (.int .i64 ((a.x : Nat) : Int)) /\ w'.cell? ⟨b, off + k * 4 + 2, none⟩ = some (.int .i64 ((a.z : Nat) : Int)) /\ w'.cell? ⟨b, off + k * 4 + 3, none⟩ = some (.int .i64 ((a.p : Nat) : Int)))))
       (first | exact ⟨⟨t0, t1⟩, ⟨d0, d1, d2, d3⟩, c0, c1, c2, c3⟩ | exact ⟨T4.cells, (T4.row HD.out).2, (T4.row HA.out).2⟩ | go_keep)
       (first
        |(go_at_call 183; refine (s_ComPau n d a _ hn OD.out OK.out).mono ?_; rintro e w4 ⟨rfl, b4⟩; rw [CQ2.out]; have T4 := BD.below b4)
        |fail)
      go_wp2_with fail
      go_roundg (gk - 1)
      all_goals first
       |omega
       |exact ⟨j + 1, by omega, by go_num, T4⟩
     ·have CQ2 := zH (show comQ d a = true by rw [CQ.out]; simp [hkj])
      have hke : ((k : Int) == (j : Int) + (n : Int)) = false := by simp; omega
      clear CQ hkj
      go_wp2_with fail
      go_region_held3 (fun w' => (w'.cell? ⟨w.heap.size, 0, none⟩ = some (.int .i64 ((n : Nat) : Int)) /\ w'.cell? ⟨w.heap.size, 1, none⟩ = some (.slice (some ⟨b, off, none⟩) m c)) /\ ((w'.cell? ⟨b, off + j * 4, none⟩ = some (.int .i64 ((n : Nat) : Int)) /\ w'.cell? ⟨b, off + j * 4 + 1, none⟩ = some (.int .i64 ((d.x : Nat) : Int)) /\ w'.cell? ⟨b, off + j * 4 + 2, none⟩ = some (.int .i64 ((d.z : Nat) : Int)) /\ w'.cell? ⟨b, off + j * 4 + 3, none⟩ = some (.int .i64 ((d.p : Nat) : Int))) /\ (w'.cell? ⟨b, off + k * 4, none⟩ = some (.int .i64 ((n : Nat) : Int)) /\ w'.cell? ⟨b, off + k * 4 + 1, none⟩ = some (.int .i64 ((a.x : Nat) : Int)) /\ w'.cell? ⟨b, off + k * 4 + 2, none⟩ = some (.int .i64 ((a.z : Nat) : Int)) /\ w'.cell? ⟨b, off + k * 4 + 3, none⟩ = some (.int .i64 ((a.p : Nat) : Int)))))
       (first | exact ⟨⟨t0, t1⟩, ⟨d0, d1, d2, d3⟩, c0, c1, c2, c3⟩ | exact ⟨T4.cells, (T4.row HD.out).2, (T4.row HA.out).2⟩ | go_keep)
       (first
        |(go_at_call 183; refine (s_ComPau n d a _ hn OD.out OK.out).mono ?_; rintro e w4 ⟨rfl, b4⟩; rw [CQ2.out]; have T4 := BD.below b4)
        |fail)
      go_wp2_with fail
      go_roundg (gk - 1)
      all_goals first
       |omega
       |exact ⟨j + 1, by omega, by go_num, T4⟩
    ·obtain rfl : j = k := by omega
     go_wp2_with fail
     go_roundg (gm - 1)
     all_goals first
      |omega
      |exact ⟨j + 1, by omega, by go_num, T3.out⟩
  ·obtain rfl : k = m := by omega
   go_wp2_with fail
   go_ret
   exact ⟨rfl, T1.out.2.2.1⟩
set_option maxRecDepth 100000 in
theorem i_IsTab (n m c : Nat) (A : Option Addr) (r : List Pq) (w : World) (hn : 1 <= n /\ n <= 4) (hr : RdG w A m (pgs n r)) (hc : m <= c) (hok : okT n r) : Calls Tryz.prog 155 #[.agg #[.int .i64 (n : Nat), .slice A m c]] w fun e w' => e = .returned (.bool true) /\ Below w.heap.size w w' := by
 have hm : m = 2 * n := by rw [<- hr.1, pgs_len, hok.1]
 obtain ⟨b, off, rfl⟩ := hr.first (by omega)
 have hmi : (m : Int) = 2 * (n : Int) := by omega
 have T0 := zH (show TBx w w.heap.size n (some ⟨b, off, none⟩) m c r (w.alloc (.cells #[.int .i64 (n : Nat), .slice (some ⟨b, off, none⟩) m c] 73)) from ⟨Bx.new _ _ _, hr.alloc _, (zW).alloc zR _, zR⟩)
 have HR := zH hok
 have HL := zH (show r.length = m by rw [hok.1, hm])
 have HI := zH (show inB (n : Int) 1 4 = true from inB_t (by omega) (by omega))
 have HM := zH hm
 have hm8 : m <= 8 := by omega
 clear hr hok hm
 obtain ⟨t0, t1⟩ := T0.out.cells
 go_enter Tryz.func155, Tryz.ntmps155
 go_wp2_with fail
 refine (i_in _ _ _ _).mono ?_
 rintro e w1 ⟨rfl, rfl⟩
 rw [HI.out]
 go_wp2_with fail
 go_loopg [23] m (fun q i wr => ∃ k : Nat, k + q = m /\ i = .int .i64 k /\ TBx w w.heap.size n (some ⟨b, off, none⟩) m c r wr)
 case atStart => exact ⟨0, by omega, rfl, T0.out⟩
 case round =>
  clear T0 t0 t1
  obtain ⟨k, hk, rfl, hT⟩ := hrel
  by_cases hlt : k < m
  ·obtain ⟨a, ha⟩ := get_lt (l := r) (k := k) (by rw [HL.out]; exact hlt)
   have HA := zH ha
   obtain ⟨hb, c0, c1, c2, c3⟩ := hT.row ha
   obtain ⟨ok1, ok2⟩ := okT_at HR.out ha
   have OK := zH ok1
   have OH := zH ok2
   clear ha ok1 ok2
   have T1 := zH (hT.alloc (.cells #[.int .i64 (n : Nat), .int .i64 (a.x : Nat), .int .i64 (a.z : Nat), .int .i64 (a.p : Nat)] 151))
   have P1 := zH (Bx.new wr 151 #[.int .i64 (n : Nat), .int .i64 (a.x : Nat), .int .i64 (a.z : Nat), .int .i64 (a.p : Nat)])
   obtain ⟨t0, t1⟩ := T1.out.cells
   clear hT
   have km : (k : Int) < 2 * (n : Int) := by omega
   have km' : (k : Int) < (m : Int) := by omega
   go_wp2_with fail
   refine (i_HerPau n a _ hn OK.out).mono ?_
   rintro e w2 ⟨rfl, b2⟩
   rw [OH.out]
   have T2 := zH (T1.out.below b2)
   have P2 := zH (P1.out.below b2)
   clear T1 P1 t0 t1 b2 c0 c1 c2 c3 hb
   obtain ⟨t0, t1⟩ := T2.out.cells
   have hsl := sl_hP (some ⟨b, off, none⟩) m c k (by omega)
   go_wp2_with fail
   obtain ⟨gm, rfl⟩ : ∃ x, x = gk := ⟨_, rfl⟩
   obtain ⟨P, hP⟩ : ∃ P, P = wr.heap.size := ⟨_, rfl⟩
   rw [<- hP] at P2 ⊢
   clear hP
   go_loopg [43] k (fun q i wr => ∃ j : Nat, j + q = k /\ i = .int .i64 j /\ TBx w w.heap.size n (some ⟨b, off, none⟩) m c r wr /\ Bx wr P 151 #[.int .i64 (n : Nat), .int .i64 (a.x : Nat), .int .i64 (a.z : Nat), .int .i64 (a.p : Nat)])
   case atStart => exact ⟨0, by omega, rfl, T2.out, P2.out⟩
   case round =>
    clear T2 P2 t0 t1
    obtain ⟨j, hj, rfl, hT, hP⟩ := hrel
    by_cases hlt2 : j < k
    ·obtain ⟨d, hd⟩ := get_lt (l := r) (k := j) (by rw [HL.out]; omega)
     have HD := zH hd
     obtain ⟨hb, d0, d1, d2, d3⟩ := hT.row hd
     have OD := zH (okT_at HR.out hd).1
     have CQ := zH (HR.out.2.2 j k d a hlt2 hd HA.out)
     clear hd
     have T3 := zH (hT.alloc (.cells #[.int .i64 (n : Nat), .int .i64 (d.x : Nat), .int .i64 (d.z : Nat), .int .i64 (d.p : Nat)] 151))
     have P3 := zH (hP.alloc (.cells #[.int .i64 (n : Nat), .int .i64 (d.x : Nat), .int .i64 (d.z : Nat), .int .i64 (d.p : Nat)] 151))
     have X3 := zH (Bx.new wr 151 #[.int .i64 (n : Nat), .int .i64 (d.x : Nat), .int .i64 (d.z : Nat), .int .i64 (d.p : Nat)])
     clear hT hP
     have jm : (j : Int) < 2 * (n : Int) := by omega
     have jm' : (j : Int) < (m : Int) := by omega
     have jn : IntKind.i64.wrap ((j : Int) + (n : Int)) = (j : Int) + (n : Int) := i64T (by omega) (by omega)
     have BD := T3.out.drew
     obtain ⟨t0, t1⟩ := T3.out.cells
     obtain ⟨p0, p1, p2, p3, _⟩ := P3.out.four
     obtain ⟨x0, x1, x2, x3, _⟩ := X3.out.four
     by_cases hkj : k = j + n
     ·have CQ2 := zH (show comQ d a = false by rw [CQ.out]; simp [hkj])
      have hke : ((k : Int) == (j : Int) + (n : Int)) = true := by simp; omega
      clear CQ hkj
      go_wp2_with fail
      go_region_held3 (fun w' => (w'.cell? ⟨w.heap.size, 0, none⟩ = some (.int .i64 ((n : Nat) : Int)) /\ w'.cell? ⟨w.heap.size, 1, none⟩ = some (.slice (some ⟨b, off, none⟩) m c)) /\ ((w'.cell? ⟨P, 0, none⟩ = some (.int .i64 ((n : Nat) : Int)) /\ w'.cell? ⟨P, 1, none⟩ = some (.int .i64 ((a.x : Nat) : Int)) /\ w'.cell? ⟨P, 2, none⟩ = some (.int .i64 ((a.z : Nat) : Int)) /\ w'.cell? ⟨P, 3, none⟩ = some (.int .i64 ((a.p : Nat) : Int))) /\ (w'.cell? ⟨wr.heap.size, 0, none⟩ = some (.int .i64 ((n : Nat) : Int)) /\ w'.cell? ⟨wr.heap.size, 1, none⟩ = some (.int .i64 ((d.x : Nat) : Int)) /\ w'.cell? ⟨wr.heap.size, 2, none⟩ = some (.int .i64 ((d.z : Nat) : Int)) /\ w'.cell? ⟨wr.heap.size, 3, none⟩ = some (.int .i64 ((d.p : Nat) : Int)))))
       (first | exact ⟨⟨t0, t1⟩, ⟨p0, p1, p2, p3⟩, x0, x1, x2, x3⟩ | exact ⟨T4.cells, (P3.out.drew.below b4).four4, (X3.out.drew.below b4).four4⟩ | go_keep)
       (first
        |(go_at_call 192; refine (i_ComPau n d a _ hn OD.out OK.out).mono ?_; rintro e w4 ⟨rfl, b4⟩; rw [CQ2.out]; have T4 := BD.below b4)
        |fail)
      go_wp2_with fail
      go_roundg (gk - 1)
      all_goals first
       |omega
       |exact ⟨j + 1, by omega, by go_num, T4, P3.out.drew.below b4⟩
     ·have CQ2 := zH (show comQ d a = true by rw [CQ.out]; simp [hkj])
      have hke : ((k : Int) == (j : Int) + (n : Int)) = false := by simp; omega
      clear CQ hkj
      go_wp2_with fail
      go_region_held3 (fun w' => (w'.cell? ⟨w.heap.size, 0, none⟩ = some (.int .i64 ((n : Nat) : Int)) /\ w'.cell? ⟨w.heap.size, 1, none⟩ = some (.slice (some ⟨b, off, none⟩) m c)) /\ ((w'.cell? ⟨P, 0, none⟩ = some (.int .i64 ((n : Nat) : Int)) /\ w'.cell? ⟨P, 1, none⟩ = some (.int .i64 ((a.x : Nat) : Int)) /\ w'.cell? ⟨P, 2, none⟩ = some (.int .i64 ((a.z : Nat) : Int)) /\ w'.cell? ⟨P, 3, none⟩ = some (.int .i64 ((a.p : Nat) : Int))) /\ (w'.cell? ⟨wr.heap.size, 0, none⟩ = some (.int .i64 ((n : Nat) : Int)) /\ w'.cell? ⟨wr.heap.size, 1, none⟩ = some (.int .i64 ((d.x : Nat) : Int)) /\ w'.cell? ⟨wr.heap.size, 2, none⟩ = some (.int .i64 ((d.z : Nat) : Int)) /\ w'.cell? ⟨wr.heap.size, 3, none⟩ = some (.int .i64 ((d.p : Nat) : Int)))))
       (first | exact ⟨⟨t0, t1⟩, ⟨p0, p1, p2, p3⟩, x0, x1, x2, x3⟩ | exact ⟨T4.cells, (P3.out.drew.below b4).four4, (X3.out.drew.below b4).four4⟩ | go_keep)
       (first
        |(go_at_call 192; refine (i_ComPau n d a _ hn OD.out OK.out).mono ?_; rintro e w4 ⟨rfl, b4⟩; rw [CQ2.out]; have T4 := BD.below b4)
        |fail)
      go_wp2_with fail
      go_roundg (gk - 1)
      all_goals first
       |omega
       |exact ⟨j + 1, by omega, by go_num, T4, P3.out.drew.below b4⟩
    ·obtain rfl : j = k := by omega
     go_wp2_with fail
     go_roundg (gm - 1)
     all_goals first
      |omega
      |exact ⟨j + 1, by omega, by go_num, hT⟩
  ·obtain rfl : k = m := by omega
   go_wp2_with fail
   go_ret
   exact ⟨rfl, hT.2.2.1⟩
theorem own_setT {w : World} {base : Nat} {e : TypeId} {sz n : Nat} {v : Value} {xs : List Value} (h : w.ownsRow base e sz v n xs) {p : Addr} (hp : p.block < base) (u : Value) : (w.setCell p u).ownsRow base e sz v n xs := by
 have hg : w.grownBy (w.setCell p u) (some p.block) := ⟨rfl, rfl, rfl, by simp [World.setCell], fun k hk hne => Below.heap_setCell w _ _ k (fun e => hne (by rw [e]))⟩
 refine h.kept hg ?_
 cases hv : v.ownBlock with
 |none => exact .inl rfl
 |some k =>
  refine .inr fun e => ?_
  injection e with e
  have := (h.lt k hv).1
  omega
theorem und_grownT {W w' : World} {r : Option Nat} (h : W.drew.grownBy w' r) : W.grownBy w' r := ⟨h.os, h.tape, h.output, h.size, h.block⟩
theorem rd_lit1 (w : World) (o : Obj) (e : TypeId) (cs : Array Value) (n sz : Nat) (h : cs.size = n * sz) : Rd ((w.alloc o).alloc (.cells cs e)) sz (some ⟨w.heap.size + 1, 0, none⟩) n cs.toList := by
 have := Rd.lit (w.alloc o) e cs n sz h
 rw [World.size_alloc] at this
 exact this
abbrev S2 (wx : World) (r : Nat) (u0 u1 : Value) : World := (wx.setCell ⟨r, 0, none⟩ u0).setCell ⟨r, 1, none⟩ u1
theorem Bx.far2 {wx : World} {g r t : Nat} {cs : Array Value} (h : Bx wx g t cs) (hr : g ≠ r) (u0 u1 : Value) : Bx (S2 wx r u0 u1) g t cs := (h.far hr u0).far hr u1
theorem Bx.set2 {wx : World} {g t : Nat} {v0 v1 : Value} (h : Bx wx g t #[v0, v1]) (u0 u1 : Value) : Bx (S2 wx g u0 u1) g t #[u0, u1] := by
 have h0 : Bx (wx.setCell ⟨g, 0, none⟩ u0) g t #[u0, v1] := by simpa using h.set_ 0 u0
 simpa using h0.set_ 1 u1
theorem Bx.snd {wx : World} {g t : Nat} {v0 v1 : Value} (h : Bx wx g t #[v0, v1]) (u1 : Value) : Bx (wx.setCell ⟨g, 1, none⟩ u1) g t #[v0, u1] := by simpa using h.set_ 1 u1
theorem belowS2 {w wx : World} {r B : Nat} (h : Below B w wx) (hr : B <= r) (u0 u1 : Value) : Below B w (S2 wx r u0 u1) := (h.setCell hr _).setCell hr _
theorem ownS2 {w : World} {base r : Nat} {e : TypeId} {sz n : Nat} {v : Value} {xs : List Value} (h : w.ownsRow base e sz v n xs) (hp : r < base) (u0 u1 : Value) : (S2 w r u0 u1).ownsRow base e sz v n xs := own_setT (own_setT h hp u0) hp u1
theorem ret_S2 {P : Program} {fn : Func} {R : Ending -> World -> Prop} {a : Act} {wy : World} {r t : Nat} {v0 v1 u0 u1 v : Value} (hB : Bx wy r t #[v0, v1])
  (hr : ∀ wS : World, wS.cell? ⟨r, 0, none⟩ = some u0 -> wS.cell? ⟨r, 1, none⟩ = some u1 -> (results fn a.tmps).run P wS = .ok v wS)
  (hd : a.defers = []) (hR : R (.returned v) (S2 wy r u0 u1)) : bodyPost P fn R .ret a (S2 wy r u0 u1) :=
 bodyPost_ret (hr _ ((hB.set2 u0 u1).cell 0) ((hB.set2 u0 u1).cell 1)) hd hR
abbrev RetTab (n m : Nat) (r : List Pq) (w : World) (e : Ending) (w' : World) : Prop :=
 ∃ A c, e = .returned (.tuple #[.agg #[.int .i64 (n : Nat), .slice A m c], .bool true]) /\ w'.ownsRow w.heap.size 151 4 (.slice A m c) m (cellsG (pgs n r)) /\ Below w.heap.size w w'
abbrev RetTab1 (n m : Nat) (r : List Pq) (w : World) (e : Ending) (w' : World) : Prop :=
 ∃ A c, e = .returned (.agg #[.int .i64 (n : Nat), .slice A m c]) /\ w'.ownsRow w.heap.size 151 4 (.slice A m c) m (cellsG (pgs n r)) /\ Below w.heap.size w w'
def MB (w : World) (n O k : Nat) (A0 : Option Addr) (c0 : Nat) (rs : List Pq) (wx : World) : Prop :=
 Bx wx O 73 #[.int .i64 (n : Nat), .slice A0 k c0] /\ wx.ownsRow (O + 1) 151 4 (.slice A0 k c0) k (cellsG (pgs n rs)) /\ Below w.heap.size w wx /\ w.heap.size <= O /\ O < wx.heap.size
section
variable {w wx w' : World} {n O k c0 : Nat} {A0 : Option Addr} {rs : List Pq}
theorem MB.below (h : MB w n O k A0 c0 rs wx) (hb : Below wx.heap.size wx w') : MB w n O k A0 c0 rs w' :=
 ⟨h.1.below hb, ownsRow_below h.2.1 hb, below_trans h.2.2.1 hb, h.2.2.2.1, Nat.lt_of_lt_of_le h.2.2.2.2 hb.size⟩
theorem MB.alloc (h : MB w n O k A0 c0 rs wx) (o : Obj) : MB w n O k A0 c0 rs (wx.alloc o) := h.below ((zW).alloc zR _)
theorem MB.drew (h : MB w n O k A0 c0 rs wx) : MB w n O k A0 c0 rs wx.drew := h.below (zW).drew
theorem MB.keeps {g t : Nat} {cs : Array Value} {w5 : World} {v : Value} (h : MB w n O k A0 c0 rs wx) (hg : wx.grownBy w5 (Value.slice A0 k c0).ownBlock) (hb : Bx wx g t cs) (hgO : g < O) : Bx (w5.setCell ⟨O, 1, none⟩ v) g t cs := by
 refine (hb.grown hg fun he => ?_).far (p := ⟨O, 1, none⟩) (by show g ≠ O; omega) v
 have := (h.2.1.lt _ he.symm).1
 omega
theorem MB.push {w5 : World} {A5 : Option Addr} {c5 : Nat} {b : Pq} (h : MB w n O k A0 c0 rs wx) (hg : wx.grownBy w5 (Value.slice A0 k c0).ownBlock) (ho : w5.ownsRow (O + 1) 151 4 (.slice A5 (k + 1) c5) (k + 1) (cellsG (pgs n rs) ++ [.int .i64 (n : Nat), .int .i64 (b.x : Nat), .int .i64 (b.z : Nat), .int .i64 (b.p : Nat)])) :
  MB w n O (k + 1) A5 c5 (rs ++ [b]) (w5.setCell ⟨O, 1, none⟩ (.slice A5 (k + 1) c5)) := by
 have hs := hg.size
 refine ⟨?_, ?_, (below_grown h.2.2.1 (by have := h.2.2.2.2; have := h.2.2.2.1; omega) h.2.1 (by have := h.2.2.2.1; omega) hg).setCell h.2.2.2.1 _, h.2.2.2.1, by have := h.2.2.2.2; simp [World.setCell]; omega⟩
 ·refine Bx.snd (h.1.grown hg fun he => ?_) _
  have := (h.2.1.lt _ he.symm).1
  omega
 ·rw [pgs_app, cellsG_append]
  exact own_setT ho (by show O < O + 1; omega) _
theorem MB.cells (h : MB w n O k A0 c0 rs wx) : (wx.cell? ⟨O, 0, none⟩ = some (.int .i64 ((n : Nat) : Int)) /\ wx.cell? ⟨O, 1, none⟩ = some (.slice (A0) k c0)) := ⟨h.1.cell 0, h.1.cell 1⟩
theorem MB.grown {w5 : World} (h : MB w n O k A0 c0 rs wx) (hg : wx.grownBy w5 (Value.slice A0 k c0).ownBlock) : Bx w5 O 73 #[.int .i64 (n : Nat), .slice A0 k c0] := by
 refine h.1.grown hg fun he => ?_
 have := (h.2.1.lt _ he.symm).1
 omega
end
end Go.Proofs.YtmenmibfkojnoaaGreat
