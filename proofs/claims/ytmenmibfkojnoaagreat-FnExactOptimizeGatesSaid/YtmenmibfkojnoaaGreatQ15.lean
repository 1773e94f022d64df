/- Contract of TableauApplyGate (impl), for valid tableaus and Clifford gates. Contracts of IdentityTableau, for one to four qubits. Contracts of IsValidCircuit (spec and impl), for any circuit of at most 2^20 gates. Contract of CircuitTableau (impl): Clifford circuits of at most 60 gates; the zero tableau for what is no valid circuit. -/
import Derived.Test.YtmenmibfkojnoaaGreatQ05
import Derived.Test.YtmenmibfkojnoaaGreatQ14
import Derived.Test.YtmenmibfkojnoaaGreatQ03
import Derived.Test.YtmenmibfkojnoaaGreatQ04
import Derived.Deep.RegionHeld3
import Derived.Deep.DeepCutAuto
set_option maxHeartbeats 16000000
namespace Go.Proofs.YtmenmibfkojnoaaGreat
open Go.RowKit
set_option linter.unusedVariables false
theorem take_snocT {α : Type} {l : List α} {k : Nat} {a : α} (h : l[k]? = some a) : l.take (k + 1) = l.take k ++ [a] := by
 rw [List.take_add_one, h]; rfl
set_option maxRecDepth 100000 in
theorem i_TabApp (n m c : Nat) (A : Option Addr) (r : List Pq) (g : Gt) (w : World) (hn : 1 <= n /\ n <= 4) (hr : RdG w A m (pgs n r)) (hc : m <= c) (hok : okT n r) (hg : okN n g = true) (hcl : cliff g.k = true) :
  Calls Tryz.prog 115 #[.agg #[.int .i64 (n : Nat), .slice A m c], .agg #[.int .i64 g.k, .int .i64 g.a, .int .i64 g.b, .int .i64 g.c]] w (RetTab n m (appT n g r) w) := by
 have hm : m = 2 * n := by rw [<- hr.1, pgs_len, hok.1]
 obtain ⟨b, off, rfl⟩ := hr.first (by omega)
 have T0 := zH (show Bx (((w.alloc (.cells #[.int .i64 (n : Nat), .slice (some ⟨b, off, none⟩) m c] 73)).alloc (.cells #[.int .i64 g.k, .int .i64 g.a, .int .i64 g.b, .int .i64 g.c] 39)).alloc (.cells #[.int .i64 0, .slice none 0 0] 73)) w.heap.size 73 _ from ((Bx.new w _ _).alloc _).alloc _)
 have G0 := zH (show Bx (((w.alloc (.cells #[.int .i64 (n : Nat), .slice (some ⟨b, off, none⟩) m c] 73)).alloc (.cells #[.int .i64 g.k, .int .i64 g.a, .int .i64 g.b, .int .i64 g.c] 39)).alloc (.cells #[.int .i64 0, .slice none 0 0] 73)) (w.heap.size + 1) 39 _ from (Bx.new' (by simp)).alloc _)
 have R0 := zH (show Bx (((w.alloc (.cells #[.int .i64 (n : Nat), .slice (some ⟨b, off, none⟩) m c] 73)).alloc (.cells #[.int .i64 g.k, .int .i64 g.a, .int .i64 g.b, .int .i64 g.c] 39)).alloc (.cells #[.int .i64 0, .slice none 0 0] 73)) (w.heap.size + 1 + 1) 73 _ from Bx.new' (by simp))
 have B0 := zH (show Below w.heap.size w (((w.alloc (.cells #[.int .i64 (n : Nat), .slice (some ⟨b, off, none⟩) m c] 73)).alloc (.cells #[.int .i64 g.k, .int .i64 g.a, .int .i64 g.b, .int .i64 g.c] 39)).alloc (.cells #[.int .i64 0, .slice none 0 0] 73)) from (((zW).alloc zR _).alloc (by simp) _).alloc (by simp <;> omega) _)
 have HW := zH hr
 have HR := zH hok
 have HL := zH (show r.length = m by rw [hok.1, hm])
 have HG := zH hg
 have HC := zH hcl
 have hm8 : m <= 8 := by omega
 clear hr hok hm hg hcl
 have t0 := T0.out.cell 0
 have t1 := T0.out.cell 1
 go_enter Tryz.func115, Tryz.ntmps115
 go_wp2_with fail
 refine (i_IsTab n m c _ r _ hn (HW.out.below B0.out) hc HR.out).mono ?_
 rintro e w1 ⟨rfl, b1⟩
 have T1 := zH ((T0.out.below b1).alloc (.cells #[.int .i64 (n : Nat), .slice none 0 0] 73))
 have G1 := zH ((G0.out.below b1).alloc (.cells #[.int .i64 (n : Nat), .slice none 0 0] 73))
 have R1 := zH ((R0.out.below b1).alloc (.cells #[.int .i64 (n : Nat), .slice none 0 0] 73))
 have hO : w.heap.size + 1 + 1 < w1.heap.size := (R0.out.below b1).lt
 have M1 := zH (show MB w n w1.heap.size 0 none 0 [] (w1.alloc (.cells #[.int .i64 (n : Nat), .slice none 0 0] 73)) from ⟨Bx.new _ _ _, World.ownsRow_nil _ _ _ _, (below_trans B0.out b1).alloc (by omega) _, by omega, by simp⟩)
 have s0 := (T0.out.below b1).cell 0
 have s1 := T1.out.cell 1
 clear b1 t0 t1 T0 G0 R0 B0
 obtain ⟨O, hO2⟩ : ∃ O, O = w1.heap.size := ⟨_, rfl⟩
 go_wp2_with fail
 rw [<- hO2] at M1 hO ⊢
 clear hO2
 go_loopg [21] m (fun q i wr => ∃ (k : Nat) (A0 : Option Addr) (c0 : Nat), k + q = m /\ i = .int .i64 k /\ Bx wr w.heap.size 73 #[.int .i64 (n : Nat), .slice (some ⟨b, off, none⟩) m c] /\ Bx wr (w.heap.size + 1) 39 #[.int .i64 g.k, .int .i64 g.a, .int .i64 g.b, .int .i64 g.c] /\ Bx wr (w.heap.size + 1 + 1) 73 #[.int .i64 0, .slice none 0 0] /\ MB w n O k A0 c0 (appT n g (r.take k)) wr)
 case atStart => exact ⟨0, none, 0, by omega, rfl, T1.out, G1.out, R1.out, M1.out⟩
 case round =>
  clear T1 G1 R1 M1 s0 s1
  obtain ⟨k, A0, c0, hk, rfl, hT, hG, hRr, hM⟩ := hrel
  by_cases hlt : k < m
  ·obtain ⟨a, ha⟩ := get_lt (l := r) (k := k) (by rw [HL.out]; exact hlt)
   obtain ⟨hb, y0, y1, y2, y3⟩ := (HW.out.below hM.2.2.1).cellsAt (pgs_drop ha)
   have OK := zH (okT_at HR.out ha).1
   have HS := zH (show appT n g (r.take (k + 1)) = appT n g (r.take k) ++ [conjQ n g a] by rw [take_snocT ha]; unfold appT; simp)
   obtain ⟨d, hd⟩ : ∃ d, conjQ n g a = d := ⟨_, rfl⟩
   rw [hd] at HS
   have HD := zH hd
   have T2 := zH (hT.alloc (.cells #[.int .i64 (n : Nat), .int .i64 (a.x : Nat), .int .i64 (a.z : Nat), .int .i64 (a.p : Nat)] 151))
   have G2 := zH (hG.alloc (.cells #[.int .i64 (n : Nat), .int .i64 (a.x : Nat), .int .i64 (a.z : Nat), .int .i64 (a.p : Nat)] 151))
   have R2 := zH (hRr.alloc (.cells #[.int .i64 (n : Nat), .int .i64 (a.x : Nat), .int .i64 (a.z : Nat), .int .i64 (a.p : Nat)] 151))
   have M2 := zH (hM.alloc (.cells #[.int .i64 (n : Nat), .int .i64 (a.x : Nat), .int .i64 (a.z : Nat), .int .i64 (a.p : Nat)] 151))
   obtain ⟨g0, g1, g2, g3, _⟩ := G2.out.four
   clear ha hT hG hRr hM hd
   simp only [pg] at y0 y1 y2 y3
   go_wp2_with fail
   refine (i_ConjPau n a d g _ hn OK.out HG.out HC.out HD.out).mono ?_
   rintro e w5 ⟨rfl, b5⟩
   have T3 := zH (((T2.out.below b5).alloc (.cells #[.int .i64 (n : Nat), .int .i64 (d.x : Nat), .int .i64 (d.z : Nat), .int .i64 (d.p : Nat)] 151)).alloc (.cells #[.int .i64 (n : Nat), .int .i64 (d.x : Nat), .int .i64 (d.z : Nat), .int .i64 (d.p : Nat)] 151))
   have G3 := zH (((G2.out.below b5).alloc (.cells #[.int .i64 (n : Nat), .int .i64 (d.x : Nat), .int .i64 (d.z : Nat), .int .i64 (d.p : Nat)] 151)).alloc (.cells #[.int .i64 (n : Nat), .int .i64 (d.x : Nat), .int .i64 (d.z : Nat), .int .i64 (d.p : Nat)] 151))
   have R3 := zH (((R2.out.below b5).alloc (.cells #[.int .i64 (n : Nat), .int .i64 (d.x : Nat), .int .i64 (d.z : Nat), .int .i64 (d.p : Nat)] 151)).alloc (.cells #[.int .i64 (n : Nat), .int .i64 (d.x : Nat), .int .i64 (d.z : Nat), .int .i64 (d.p : Nat)] 151))
   have M3 := zH (((M2.out.below b5).alloc (.cells #[.int .i64 (n : Nat), .int .i64 (d.x : Nat), .int .i64 (d.z : Nat), .int .i64 (d.p : Nat)] 151)).alloc (.cells #[.int .i64 (n : Nat), .int .i64 (d.x : Nat), .int .i64 (d.z : Nat), .int .i64 (d.p : Nat)] 151))
   have OV := zH M3.out.2.1
   have m1 := ((M2.out.below b5).alloc (.cells #[.int .i64 (n : Nat), .int .i64 (d.x : Nat), .int .i64 (d.z : Nat), .int .i64 (d.p : Nat)] 151)).1.cell 1
   have hO5 : O < w5.heap.size := (M2.out.below b5).2.2.2.2
   clear T2 G2 R2 M2 b5 g0 g1 g2 g3 y0 y1 y2 y3 hb
   go_wp2_with (at_builtin; refine wpList_app rfl (.tmp 35) (.tmp 37) 71 rfl Tryz.underlying71 infoPauli rfl (by decide) rfl OV.out rfl (rd_lit1 _ _ 151 #[.int .i64 (n : Nat), .int .i64 (d.x : Nat), .int .i64 (d.z : Nat), .int .i64 (d.p : Nat)] 1 4 rfl) (by simp [Value.oneCell']) (by omega) (by decide) (by simp <;> omega) ?_; intro A5 c5 w5' o5 g5; have Y5 := (M3.out.grown g5).two; obtain ⟨e0, e1, e2, e3⟩ := Y5)
   go_roundg (gk - 1)
   all_goals first
    |omega
    |exact ⟨k + 1, A5, c5, by omega, by go_num, M3.out.keeps g5 T3.out (by omega), M3.out.keeps g5 G3.out (by omega), M3.out.keeps g5 R3.out (by omega), by rw [HS.out]; exact M3.out.push g5 o5⟩
  ·obtain rfl : k = m := by omega
   obtain ⟨e0, e1⟩ := hM.cells
   obtain ⟨r0, r1, r2, r3⟩ := hRr.two
   have hrs : r.take k = r := List.take_of_length_le (by rw [HL.out]; exact zR)
   rw [hrs] at hM
   have MM := zH hM
   have RR := zH hRr
   clear hM hrs hRr
   go_wp2_with fail
   have RB := RR.out
   with_reducible refine ret_S2 RB ?_ ?_ ⟨A0, c0, rfl, ?_, ?_⟩
   ·intro wS z0 z1; simp [results, Tryz.results115, go_sem, z0, z1]
   ·rfl
   ·exact ownsRow_base (ownS2 MM.out.2.1 (by omega) _ _) (by omega)
   ·exact belowS2 MM.out.2.2.1 (by omega) _ _
theorem idT_len (n : Nat) : (idT n).length = 2 * n := by unfold idT; simp; omega
theorem idT_x {n k : Nat} (h : k < n) : (idT n)[k]? = some (xQ k) := by
 unfold idT
 rw [List.getElem?_append_left (by simpa using h)]
 simp [h]
theorem idT_z {n k : Nat} (h : k < n) : (idT n)[n + k]? = some (zQ k) := by
 unfold idT
 rw [List.getElem?_append_right (by simp)]
 simp [h]
theorem idT_take_x {n k X : Nat} (h : k < n) (hX : 2 ^ k = X) : (idT n).take (k + 1) = (idT n).take k ++ [⟨X, 0, 0⟩] := by rw [take_snocT (idT_x h)]; unfold xQ; rw [hX]
theorem idT_take_z {n k X : Nat} (h : k < n) (hX : 2 ^ k = X) : (idT n).take (n + k + 1) = (idT n).take (n + k) ++ [⟨0, X, 0⟩] := by rw [take_snocT (idT_z h)]; unfold zQ; rw [hX]
set_option maxRecDepth 100000 in
theorem i_IdTab (n : Nat) (w : World) (hn : 1 <= n /\ n <= 4) : Calls Tryz.prog 114 #[.int .i64 (n : Nat)] w (RetTab1 n (2 * n) (idT n) w) := by
 have HI := zH (show inB (n : Int) 1 4 = true from inB_t (by omega) (by omega))
 have R0 := zH (show Bx ((w.alloc (.cells #[.int .i64 0, .slice none 0 0] 73)).alloc (.cells #[.int .i64 (n : Nat), .slice none 0 0] 73)) w.heap.size 73 #[.int .i64 0, .slice none 0 0] from (Bx.new _ _ _).alloc _)
 have M0 := zH (show MB w n (w.heap.size + 1) 0 none 0 ((idT n).take 0) ((w.alloc (.cells #[.int .i64 0, .slice none 0 0] 73)).alloc (.cells #[.int .i64 (n : Nat), .slice none 0 0] 73)) from ⟨Bx.new' (by simp), World.ownsRow_nil _ _ _ _, ((zW).alloc zR _).alloc (by simp) _, by omega, by simp⟩)
 have hz2 : (Value.agg #[.int .i64 0, .int .i64 0, .int .i64 0, .int .i64 0]).cells.size = 4 := rfl
 go_enter Tryz.func114, Tryz.ntmps114
 go_wp2_with fail
 refine (i_in _ _ _ _).mono ?_
 rintro e w1 ⟨rfl, rfl⟩
 rw [HI.out]
 go_wp2_with fail
 go_loopg [4] n (fun q i wr => ∃ (k : Nat) (A0 : Option Addr) (c0 : Nat), k + q = n /\ i = .int .i64 k /\ Bx wr w.heap.size 73 #[.int .i64 0, .slice none 0 0] /\ MB w n (w.heap.size + 1) k A0 c0 ((idT n).take k) wr)
 case atStart => exact ⟨0, none, 0, by omega, rfl, R0.out, M0.out⟩
 case round =>
  clear R0 M0
  obtain ⟨k, A0, c0, hk, rfl, hR, hM⟩ := hrel
  have m0 := hM.1.cell 0
  have m1 := hM.1.cell 1
  have hO := hM.2.2.2.2
  have RR := zH hR
  have MM := zH hM
  clear hR hM
  by_cases hlt : k < n
  ·obtain ⟨S1, S2, S3⟩ := shl2 ⟨k, by omega⟩
   simp only at S1 S2 S3
   obtain ⟨X, hX⟩ : ∃ X : Nat, 2 ^ k = X := ⟨_, rfl⟩
   rw [hX] at S1 S2 S3
   have HT := zH (idT_take_x hlt hX)
   clear hX
   have M2 := zH (MM.out.alloc (.cells #[.int .i64 (n : Nat), .int .i64 (X : Nat), .int .i64 0, .int .i64 0] 151))
   have R2 := zH (RR.out.alloc (.cells #[.int .i64 (n : Nat), .int .i64 (X : Nat), .int .i64 0, .int .i64 0] 151))
   have OV : Hid ((wr.alloc (.cells #[.int .i64 (n : Nat), .int .i64 (X : Nat), .int .i64 0, .int .i64 0] 151)).drew.ownsRow (w.heap.size + 1 + 1) 151 4 (.slice A0 k c0) k (cellsG (pgs n ((idT n).take k)))) := zH M2.out.2.1
   go_wp2_with fail
   go_region_law (first
    |(refine step_app (by rfl) (.tmp 18) (.tmp 23) 71 (by rfl) Tryz.underlying71 infoPauli hz2 (by decide) (by simp [Act.eval] <;> rfl) OV.out (by simp [Act.eval] <;> rfl) (Rd.drew (Rd.lit wr 151 #[.int .i64 (n : Nat), .int .i64 (X : Nat), .int .i64 0, .int .i64 0] 1 4 rfl)) (by simp [Value.oneCell']) (by omega) (by decide) (by simp <;> omega) ?_; intro A5 c5 w5 o5 g5; have Y2 := M2.out.grown (und_grownT g5); have ⟨q0, q1, e0, e1⟩ := Y2.two))
   all_goals go_wp2_with fail
   all_goals go_roundg (gk - 1)
   all_goals first
    |omega
    |exact ⟨k + 1, A5, c5, by omega, by go_num, M2.out.keeps (und_grownT g5) R2.out (by omega), by rw [HT.out]; exact M2.out.push (und_grownT g5) o5⟩
  ·obtain rfl : k = n := by omega
   obtain ⟨wo, rfl⟩ : ∃ wo, wo = wr := ⟨_, rfl⟩
   go_wp2_with fail
   go_loopg [5] k (fun q i wr => ∃ (j : Nat) (A0 : Option Addr) (c0 : Nat), j + q = k /\ i = .int .i64 j /\ Bx wr w.heap.size 73 #[.int .i64 0, .slice none 0 0] /\ MB w k (w.heap.size + 1) (k + j) A0 c0 ((idT k).take (k + j)) wr)
   case atStart => exact ⟨0, A0, c0, by omega, rfl, RR.out, MM.out⟩
   case round =>
    clear RR MM m0 m1 hO
    obtain ⟨j, A1, c1, hj, rfl, hR, hM⟩ := hrel
    have m0 := hM.1.cell 0
    have m1 := hM.1.cell 1
    have hO := hM.2.2.2.2
    have RR := zH hR
    have MM := zH hM
    clear hR hM
    by_cases hlt : j < k
    ·obtain ⟨S1, S2, S3⟩ := shl2 ⟨j, by omega⟩
     simp only at S1 S2 S3
     obtain ⟨X, hX⟩ : ∃ X : Nat, 2 ^ j = X := ⟨_, rfl⟩
     rw [hX] at S1 S2 S3
     have HT := zH (idT_take_z hlt hX)
     clear hX
     have M2 := zH (MM.out.alloc (.cells #[.int .i64 (k : Nat), .int .i64 0, .int .i64 (X : Nat), .int .i64 0] 151))
     have R2 := zH (RR.out.alloc (.cells #[.int .i64 (k : Nat), .int .i64 0, .int .i64 (X : Nat), .int .i64 0] 151))
     have OV : Hid ((wr.alloc (.cells #[.int .i64 (k : Nat), .int .i64 0, .int .i64 (X : Nat), .int .i64 0] 151)).drew.ownsRow (w.heap.size + 1 + 1) 151 4 (.slice A1 (k + j) c1) (k + j) (cellsG (pgs k ((idT k).take (k + j))))) := zH M2.out.2.1
     go_wp2_with fail
     go_region_law (first
      |(refine step_app (by rfl) (.tmp 32) (.tmp 37) 71 (by rfl) Tryz.underlying71 infoPauli hz2 (by decide) (by simp [Act.eval] <;> rfl) OV.out (by simp [Act.eval] <;> rfl) (Rd.drew (Rd.lit wr 151 #[.int .i64 (k : Nat), .int .i64 0, .int .i64 (X : Nat), .int .i64 0] 1 4 rfl)) (by simp [Value.oneCell']) (by omega) (by decide) (by simp <;> omega) ?_; intro A5 c5 w5 o5 g5; have Y2 := M2.out.grown (und_grownT g5); have ⟨q0, q1, e0, e1⟩ := Y2.two))
     all_goals go_wp2_with fail
     all_goals go_roundg (gk - 1)
     all_goals first
      |omega
      |exact ⟨j + 1, A5, c5, by omega, by go_num, M2.out.keeps (und_grownT g5) R2.out (by omega), by show MB w k (w.heap.size + 1) (k + j + 1) A5 c5 ((idT k).take (k + j + 1)) _; rw [HT.out]; exact M2.out.push (und_grownT g5) o5⟩
    ·obtain rfl : j = k := by omega
     obtain ⟨r0, r1, r2, r3⟩ := RR.out.two
     have hrs : (idT j).take (j + j) = idT j := List.take_of_length_le (by rw [idT_len]; omega)
     have h2 : j + j = 2 * j := by omega
     have HM := MM.out
     rw [hrs] at HM
     go_wp2_with fail
     have RB := RR.out
     rw [h2] at HM
     with_reducible refine ret_S2 RB ?_ ?_ ⟨A1, c1, rfl, ?_, ?_⟩
     ·intro wS z0 z1; simp [results, Tryz.results114, go_sem, z0, z1]
     ·rfl
     ·exact ownsRow_base (ownS2 HM.2.1 (by omega) _ _) (by omega)
     ·exact belowS2 HM.2.2.1 (by omega) _ _
def okA (l : List Gt) (n : Int) : Bool := l.all fun g => okG g.k g.a g.b g.c n
def okC (l : List Gt) (n : Int) : Bool := inB n 1 4 && (decide (l.length <= 60) && okA l n)
theorem okA_cons (g : Gt) (l : List Gt) (n : Int) : okA (g :: l) n = (okG g.k g.a g.b g.c n && okA l n) := rfl
set_option maxRecDepth 100000 in
theorem s_ValC (A : Option Addr) (m cap : Nat) (q : Int) (gs : List Gt) (w : World) (h : RdG w A m gs) (hn : m <= 1073741824) :
  Calls Tryz.prog 65 #[.agg #[.int .i64 q, .slice A m cap]] w fun e w' => e = .returned (.bool (okC gs q)) /\ Below w.heap.size w w' := by
 have H := zH h
 have HL := zH h.1
 clear h
 go_enter Tryz.func65, Tryz.ntmps65
 go_wp2_with fail
 go_loopg [3] m (fun r i wr => ∃ k : Nat, k + r = m /\ i = .int .i64 k /\ okA (gs.drop k) q = okA gs q /\ Bx wr w.heap.size 45 #[.int .i64 q, .slice A m cap] /\ Below w.heap.size w wr)
 case atStart => exact ⟨0, by omega, rfl, rfl, Bx.new w _ _, (zW).alloc zR _⟩
 case round =>
  obtain ⟨k, hk, rfl, ha, hx, hb⟩ := hrel
  have HX := zH hx
  have HA := zH ha
  have hs0 := hb.size
  have hsl : w.heap.size < wr.heap.size := hx.lt
  clear hx ha
  obtain ⟨p0, p1, _, _⟩ := HX.out.two
  by_cases hlt : k < m
  ·obtain ⟨b, off, g, rfl, hB, hd, c0, c1, c2, c3⟩ := (H.out.below hb).at_ hlt
   have HD := zH hd
   clear hd
   have hi0 : (0 : Int) <= (k : Int) := by omega
   have hi1 : (k : Int) < (m : Int) := by omega
   cases hv : okG g.k g.a g.b g.c q
   ·have HV := zH hv
    clear hv
    go_upto_region 4 with fail
    go_region_held3 (fun w' => w'.cell? ⟨w.heap.size, 0, none⟩ = some (.int .i64 q) /\ w'.cell? ⟨w.heap.size, 1, none⟩ = some (.slice (some ⟨b, off, none⟩) m cap) /\ w'.cell? ⟨b, off + k * 4, none⟩ = some (.int .i64 g.k) /\ w'.cell? ⟨b, off + k * 4 + 1, none⟩ = some (.int .i64 g.a) /\ w'.cell? ⟨b, off + k * 4 + 2, none⟩ = some (.int .i64 g.b) /\ w'.cell? ⟨b, off + k * 4 + 3, none⟩ = some (.int .i64 g.c))
     (first | with_reducible exact ⟨s0, s1, s2, s3, s4, s5⟩ | go_keep)
     (first
      |(go_at_call 25; refine (s_IsValidGate g.k g.a g.b g.c q _).mono ?_; rintro e w1 ⟨rfl, b1⟩; rw [HV.out]; have s0 := (b1.cell (p := ⟨w.heap.size, 0, none⟩) hsl).trans p0; have s1 := (b1.cell (p := ⟨w.heap.size, 1, none⟩) hsl).trans p1; have s2 := (b1.cell (p := ⟨b, off + k * 4, none⟩) hB).trans c0; have s3 := (b1.cell (p := ⟨b, off + k * 4 + 1, none⟩) hB).trans c1; have s4 := (b1.cell (p := ⟨b, off + k * 4 + 2, none⟩) hB).trans c2; have s5 := (b1.cell (p := ⟨b, off + k * 4 + 3, none⟩) hB).trans c3)
      |fail)
    all_goals go_wp2_with fail
    all_goals go_ret
    all_goals exact ⟨ret_bool (by unfold okC; rw [<- HA.out, HD.out, okA_cons, HV.out]; simp), hb.trans ((below_drew b1).mono (by simpa using hs0))⟩
   ·have HV := zH hv
    clear hv
    go_upto_region 4 with fail
    go_region_held3 (fun w' => w'.cell? ⟨w.heap.size, 0, none⟩ = some (.int .i64 q) /\ w'.cell? ⟨w.heap.size, 1, none⟩ = some (.slice (some ⟨b, off, none⟩) m cap) /\ w'.cell? ⟨b, off + k * 4, none⟩ = some (.int .i64 g.k) /\ w'.cell? ⟨b, off + k * 4 + 1, none⟩ = some (.int .i64 g.a) /\ w'.cell? ⟨b, off + k * 4 + 2, none⟩ = some (.int .i64 g.b) /\ w'.cell? ⟨b, off + k * 4 + 3, none⟩ = some (.int .i64 g.c))
     (first | with_reducible exact ⟨s0, s1, s2, s3, s4, s5⟩ | go_keep)
     (first
      |(go_at_call 25; refine (s_IsValidGate g.k g.a g.b g.c q _).mono ?_; rintro e w1 ⟨rfl, b1⟩; rw [HV.out]; have s0 := (b1.cell (p := ⟨w.heap.size, 0, none⟩) hsl).trans p0; have s1 := (b1.cell (p := ⟨w.heap.size, 1, none⟩) hsl).trans p1; have s2 := (b1.cell (p := ⟨b, off + k * 4, none⟩) hB).trans c0; have s3 := (b1.cell (p := ⟨b, off + k * 4 + 1, none⟩) hB).trans c1; have s4 := (b1.cell (p := ⟨b, off + k * 4 + 2, none⟩) hB).trans c2; have s5 := (b1.cell (p := ⟨b, off + k * 4 + 3, none⟩) hB).trans c3)
      |fail)
    all_goals go_wp2_with fail
    all_goals go_roundg (gk - 1)
    all_goals first
     |omega
     |exact ⟨k + 1, by omega, by go_num, by rw [<- HA.out, HD.out, okA_cons, HV.out, Bool.true_and], (HX.out.drew.below b1), hb.trans ((below_drew b1).mono (by simpa using hs0))⟩
  ·obtain rfl : k = m := by omega
   have hok : okA gs q = true := by rw [<- HA.out, List.drop_eq_nil_of_le (by rw [HL.out]; exact zR)]; rfl
   have HK := zH hok
   clear hok
   cases hi : inB q 1 4
   ·have HI := zH hi
    clear hi
    go_wp2_with fail
    refine (s_in _ _ _ _).mono ?_
    rintro e w1 ⟨rfl, rfl⟩
    rw [HI.out]
    go_wp2_with fail
    go_ret
    exact ⟨ret_bool (by unfold okC; rw [HI.out]; rfl), hb⟩
   ·have HI := zH hi
    clear hi
    go_wp2_with fail
    refine (s_in _ _ _ _).mono ?_
    rintro e w1 ⟨rfl, rfl⟩
    rw [HI.out]
    go_wp2_with fail
    go_ret
    exact ⟨ret_bool (by unfold okC; rw [HI.out, HK.out, HL.out]; simp <;> omega), hb⟩
set_option maxRecDepth 100000 in
theorem i_ValC (A : Option Addr) (m cap : Nat) (q : Int) (gs : List Gt) (w : World) (h : RdG w A m gs) (hn : m <= 1073741824) :
  Calls Tryz.prog 69 #[.agg #[.int .i64 q, .slice A m cap]] w fun e w' => e = .returned (.bool (okC gs q)) /\ Below w.heap.size w w' := by
 have H := zH h
 have HL := zH h.1
 have X0 := zH (Bx.new w 45 #[.int .i64 q, .slice A m cap])
 have B0 := zH (show Below w.heap.size w (w.alloc (.cells #[.int .i64 q, .slice A m cap] 45)) from (zW).alloc zR _)
 clear h
 cases hi : inB q 1 4
 ·have HI := zH hi
  clear hi
  go_enter Tryz.func69, Tryz.ntmps69
  go_wp2_with fail
  refine (i_in _ _ _ _).mono ?_
  rintro e w1 ⟨rfl, rfl⟩
  rw [HI.out]
  go_wp2_with fail
  go_ret
  exact ⟨ret_bool (by unfold okC; rw [HI.out]; rfl), B0.out⟩
 ·have HI := zH hi
  clear hi
  by_cases hm : m <= 60
  ·go_enter Tryz.func69, Tryz.ntmps69
   go_wp2_with fail
   refine (i_in _ _ _ _).mono ?_
   rintro e w1 ⟨rfl, rfl⟩
   rw [HI.out]
   have hm' : ¬ ((60 : Int) < (m : Int)) := by omega
   go_wp2_with fail
   go_loopg [18] m (fun r i wr => ∃ k : Nat, k + r = m /\ i = .int .i64 k /\ okA (gs.drop k) q = okA gs q /\ Bx wr w.heap.size 45 #[.int .i64 q, .slice A m cap] /\ Below w.heap.size w wr)
   case atStart => exact ⟨0, by omega, rfl, rfl, X0.out, B0.out⟩
   case round =>
    clear X0 B0
    obtain ⟨k, hk, rfl, ha, hx, hb⟩ := hrel
    have HA := zH ha
    by_cases hlt : k < m
    ·obtain ⟨b, off, g, rfl, hB, hd, c0, c1, c2, c3⟩ := (H.out.below hb).at_ hlt
     have HD := zH hd
     have HX := zH (hx.alloc (.cells #[.int .i64 g.k, .int .i64 g.a, .int .i64 g.b, .int .i64 g.c] 39))
     have HB := zH (hb.alloc hb.size (.cells #[.int .i64 g.k, .int .i64 g.a, .int .i64 g.b, .int .i64 g.c] 39))
     have p0 := HX.out.cell 0
     clear hd hx ha
     have hi0 : (0 : Int) <= (k : Int) := by omega
     have hi1 : (k : Int) < (m : Int) := by omega
     go_wp2_with fail
     refine (i_IsValidGate g.k g.a g.b g.c q _).mono ?_
     rintro e w1 ⟨rfl, b1⟩
     cases hv : okG g.k g.a g.b g.c q
     ·have HV := zH hv
      clear hv
      go_wp2_with fail
      go_ret
      exact ⟨ret_bool (by unfold okC; rw [<- HA.out, HD.out, okA_cons, HV.out]; simp), below_trans HB.out b1⟩
     ·have HV := zH hv
      clear hv
      go_wp2_with fail
      go_roundg (gk - 1)
      all_goals first
       |omega
       |exact ⟨k + 1, by omega, by go_num, by rw [<- HA.out, HD.out, okA_cons, HV.out, Bool.true_and], HX.out.below b1, below_trans HB.out b1⟩
    ·obtain rfl : k = m := by omega
     have hok : okA gs q = true := by rw [<- HA.out, List.drop_eq_nil_of_le (by rw [HL.out]; exact zR)]; rfl
     go_wp2_with fail
     go_ret
     exact ⟨ret_bool (by unfold okC; rw [HI.out, hok, HL.out]; simp; omega), hb⟩
  ·go_enter Tryz.func69, Tryz.ntmps69
   go_wp2_with fail
   refine (i_in _ _ _ _).mono ?_
   rintro e w1 ⟨rfl, rfl⟩
   rw [HI.out]
   have hm' : (60 : Int) < (m : Int) := by omega
   go_wp2_with fail
   go_ret
   exact ⟨ret_bool (by unfold okC; rw [HL.out]; simp [hm]), B0.out⟩
theorem own_farT {w : World} {base : Nat} {e t : TypeId} {sz n g : Nat} {v : Value} {xs : List Value} {cs : Array Value} (h : w.ownsRow base e sz v n xs) (hg : Bx w g t cs) (hne : e ≠ t) (i : Nat) (u : Value) : (w.setCell ⟨g, i, none⟩ u).ownsRow base e sz v n xs := by
 have hb : w.grownBy (w.setCell ⟨g, i, none⟩ u) (some g) := ⟨rfl, rfl, rfl, by simp [World.setCell], fun k hk hne => Below.heap_setCell w _ _ k (fun e => hne (by rw [e]))⟩
 refine h.kept hb ?_
 exact .inr fun e => own_bx_ne h hg hne e.symm
def KB (w : World) (n O : Nat) (A0 : Option Addr) (c0 : Nat) (r : List Pq) (wx : World) : Prop :=
 Bx wx O 73 #[.int .i64 (n : Nat), .slice A0 (2 * n) c0] /\ wx.ownsRow w.heap.size 151 4 (.slice A0 (2 * n) c0) (2 * n) (cellsG (pgs n r)) /\ Below w.heap.size w wx /\ w.heap.size <= O
section
variable {w wx w' : World} {n O c0 c1 : Nat} {A0 A1 : Option Addr} {r r1 : List Pq}
theorem KB.below (h : KB w n O A0 c0 r wx) (hb : Below wx.heap.size wx w') : KB w n O A0 c0 r w' := ⟨h.1.below hb, ownsRow_below h.2.1 hb, below_trans h.2.2.1 hb, h.2.2.2⟩
theorem KB.alloc (h : KB w n O A0 c0 r wx) (o : Obj) : KB w n O A0 c0 r (wx.alloc o) := h.below ((zW).alloc zR _)
theorem KB.drew (h : KB w n O A0 c0 r wx) : KB w n O A0 c0 r wx.drew := h.below (zW).drew
theorem KB.rd (h : KB w n O A0 c0 r wx) : RdG wx A0 (2 * n) (pgs n r) := RdG.own h.2.1
theorem KB.cap (h : KB w n O A0 c0 r wx) : 2 * n <= c0 := ownsRow_cap h.2.1
theorem KB.put (h : KB w n O A0 c0 r wx) (ho : wx.ownsRow w.heap.size 151 4 (.slice A1 (2 * n) c1) (2 * n) (cellsG (pgs n r1))) : KB w n O A1 c1 r1 (S2 wx O (.int .i64 (n : Nat)) (.slice A1 (2 * n) c1)) := by
 have h0 : Bx (wx.setCell ⟨O, 0, none⟩ (.int .i64 (n : Nat))) O 73 #[.int .i64 (n : Nat), .slice A0 (2 * n) c0] := by simpa using h.1.set_ 0 (.int .i64 (n : Nat))
 exact ⟨h.1.set2 _ _, own_farT (own_farT ho h.1 (by decide) 0 _) h0 (by decide) 1 _, belowS2 h.2.2.1 h.2.2.2 _ _, h.2.2.2⟩
theorem KB.cells (h : KB w n O A0 c0 r wx) : wx.cell? ⟨O, 0, none⟩ = some (.int .i64 (n : Nat)) /\ wx.cell? ⟨O, 1, none⟩ = some (.slice A0 (2 * n) c0) /\ wx.frozen? ⟨O, 0, none⟩ = false /\ wx.frozen? ⟨O, 1, none⟩ = false := h.1.two
end
theorem okC_t {n : Nat} {l : List Gt} (hn : 1 <= n /\ n <= 4) (h : l.length <= 60) (hl : ∀ g ∈ l, okN n g = true) : okC l n = true := by
 unfold okC okA
 rw [inB_t (by omega) (by omega), decide_eq_true h, Bool.true_and, Bool.true_and]
 exact List.all_eq_true.2 fun g hg => hl g hg
set_option maxRecDepth 100000 in
theorem i_CirTab (n m c : Nat) (A : Option Addr) (l : List Gt) (w : World) (hn : 1 <= n /\ n <= 4) (hr : RdG w A m l) (hm : m <= 60) (hl : ∀ g ∈ l, okN n g = true /\ cliff g.k = true) (hi : okT n (idT n)) :
  Calls Tryz.prog 67 #[.agg #[.int .i64 (n : Nat), .slice A m c]] w (RetTab n (2 * n) (runT n l (idT n)) w) := by
 have X0 := zH (show Bx ((w.alloc (.cells #[.int .i64 (n : Nat), .slice A m c] 45)).alloc (.cells #[.int .i64 0, .slice none 0 0] 73)) w.heap.size 45 _ from (Bx.new w _ _).alloc _)
 have R0 := zH (show Bx ((w.alloc (.cells #[.int .i64 (n : Nat), .slice A m c] 45)).alloc (.cells #[.int .i64 0, .slice none 0 0] 73)) (w.heap.size + 1) 73 #[.int .i64 0, .slice none 0 0] from Bx.new' (by simp))
 have B0 := zH (show Below w.heap.size w ((w.alloc (.cells #[.int .i64 (n : Nat), .slice A m c] 45)).alloc (.cells #[.int .i64 0, .slice none 0 0] 73)) from ((zW).alloc zR _).alloc (by simp) _)
 have HW := zH hr
 have HL := zH hl
 have HT := zH hi
 have HV := zH (okC_t hn (by rw [hr.1]; exact hm) fun g hg => (hl g hg).1)
 have x0 := X0.out.cell 0
 have x1 := X0.out.cell 1
 clear hr hl hi
 go_enter Tryz.func67, Tryz.ntmps67
 go_wp2_with fail
 refine (i_ValC A m c n l _ (HW.out.below B0.out) (by omega)).mono ?_
 rintro e w1 ⟨rfl, b1⟩
 rw [HV.out]
 have X1 := zH (X0.out.below b1)
 have R1 := zH (R0.out.below b1)
 have B1 := zH (below_trans B0.out b1)
 clear b1 X0 R0 B0 x0 x1
 have x0 := X1.out.cell 0
 have x1 := X1.out.cell 1
 go_wp2_with fail
 refine (i_IdTab n _ hn).mono ?_
 rintro e w2 ⟨A0, c0, rfl, o2, b2⟩
 have X2 := zH ((X1.out.below b2).alloc (.cells #[.int .i64 (n : Nat), .slice A0 (2 * n) c0] 73))
 have R2 := zH ((R1.out.below b2).alloc (.cells #[.int .i64 (n : Nat), .slice A0 (2 * n) c0] 73))
 have K2 := zH (show KB w n w2.heap.size A0 c0 (idT n) (w2.alloc (.cells #[.int .i64 (n : Nat), .slice A0 (2 * n) c0] 73)) from ⟨Bx.new _ _ _, ownsRow_base (o2.alloc _) B1.out.size, (below_trans B1.out b2).alloc (Nat.le_trans B1.out.size b2.size) _, Nat.le_trans B1.out.size b2.size⟩)
 have lt2 : w.heap.size + 1 < w2.heap.size := (R1.out.below b2).lt
 clear o2 b2 X1 R1 B1 x0 x1
 have x1 := X2.out.cell 1
 obtain ⟨O, hO⟩ : ∃ O, O = w2.heap.size := ⟨_, rfl⟩
 rw [<- hO] at K2 lt2
 go_wp2_with fail
 rw [<- hO]
 clear hO
 go_loopg [19] m (fun q i wr => ∃ (k : Nat) (A0 : Option Addr) (c0 : Nat) (r : List Pq), k + q = m /\ i = .int .i64 k /\ okT n r /\ runT n (l.drop k) r = runT n l (idT n) /\ Bx wr w.heap.size 45 #[.int .i64 (n : Nat), .slice A m c] /\ Bx wr (w.heap.size + 1) 73 #[.int .i64 0, .slice none 0 0] /\ KB w n O A0 c0 r wr)
 case atStart => exact ⟨0, A0, c0, idT n, by omega, rfl, HT.out, rfl, X2.out, R2.out, K2.out⟩
 case round =>
  clear X2 R2 K2 x1
  obtain ⟨k, A0, c0, r, hk, rfl, hok, hrun, hX, hR, hK⟩ := hrel
  by_cases hlt : k < m
  ·obtain ⟨b, off, g, rfl, hB, hd, y0, y1, y2, y3⟩ := (HW.out.below hK.2.2.1).at_ hlt
   have HG := zH (HL.out g (List.mem_of_mem_drop (i := k) (by rw [hd]; simp)))
   have HRUN := zH (show runT n (l.drop (k + 1)) (appT n g r) = runT n l (idT n) by rw [<- hrun, hd]; rfl)
   have HO2 := zH (appT_ok HG.out.1 HG.out.2 hok)
   have HOK := zH hok
   have X3 := zH (hX.alloc (.cells #[.int .i64 g.k, .int .i64 g.a, .int .i64 g.b, .int .i64 g.c] 39))
   have R3 := zH (hR.alloc (.cells #[.int .i64 g.k, .int .i64 g.a, .int .i64 g.b, .int .i64 g.c] 39))
   have K3 := zH (hK.alloc (.cells #[.int .i64 g.k, .int .i64 g.a, .int .i64 g.b, .int .i64 g.c] 39))
   obtain ⟨t0, t1, _⟩ := K3.out.cells
   clear hX hR hK hd hrun hok
   have hi0 : (0 : Int) <= (k : Int) := by omega
   have hi1 : (k : Int) < (m : Int) := by omega
   go_wp2_with fail
   refine (i_TabApp n (2 * n) c0 A0 r g _ hn K3.out.rd K3.out.cap HOK.out HG.out.1 HG.out.2).mono ?_
   rintro e w5 ⟨A5, c5, rfl, o5, b5⟩
   have X5 := zH ((X3.out.below b5).alloc (.cells #[.int .i64 (n : Nat), .slice A5 (2 * n) c5] 73))
   have R5 := zH ((R3.out.below b5).alloc (.cells #[.int .i64 (n : Nat), .slice A5 (2 * n) c5] 73))
   have K5 := zH ((K3.out.below b5).alloc (.cells #[.int .i64 (n : Nat), .slice A5 (2 * n) c5] 73))
   have O5 := zH (ownsRow_base (base' := w.heap.size) (o5.alloc (.cells #[.int .i64 (n : Nat), .slice A5 (2 * n) c5] 73)) K3.out.2.2.1.size)
   clear t0 t1 o5 b5 X3 R3 K3
   obtain ⟨t0, t1, t2, t3⟩ := K5.out.cells
   go_wp2_with fail
   go_roundg (gk - 1)
   all_goals first
    |omega
    |exact ⟨k + 1, A5, c5, appT n g r, by omega, by go_num, HO2.out, HRUN.out, X5.out.far2 (by omega) _ _, R5.out.far2 (by omega) _ _, K5.out.put O5.out⟩
  ·obtain rfl : k = m := by omega
   have hfin : r = runT n l (idT n) := by rw [<- hrun, List.drop_eq_nil_of_le (by rw [HW.out.1]; exact zR)]; rfl
   rw [hfin] at hK
   have K5 := zH hK
   have R5 := zH hR
   obtain ⟨t0, t1, _⟩ := K5.out.cells
   obtain ⟨r0, r1, r2, r3⟩ := R5.out.two
   clear hX hR hK hrun hfin hok
   go_wp2_with fail
   have RB := R5.out
   have hne : w.heap.size + 1 ≠ O := by omega
   have h1 : Bx (wr.setCell ⟨w.heap.size + 1, 0, none⟩ (.int .i64 (n : Nat))) (w.heap.size + 1) 73 #[.int .i64 (n : Nat), .slice none 0 0] := by simpa using RB.set_ 0 (.int .i64 (n : Nat))
   with_reducible refine ret_S2 RB ?_ ?_ ⟨A0, c0, rfl, ?_, ?_⟩
   ·intro wS z0 z1; simp [results, Tryz.results67, go_sem, z0, z1]
   ·rfl
   ·exact own_farT (own_farT K5.out.2.1 RB (by decide) 0 _) h1 (by decide) 1 _
   ·exact belowS2 K5.out.2.2.1 (by omega) _ _
end Go.Proofs.YtmenmibfkojnoaaGreat
