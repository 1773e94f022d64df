/- Contract of IdentityTableau (spec), for one to four qubits. Contract of CircuitTableau (spec): Clifford circuits of at most 60 gates. The reducer's box; contracts of l28Do (spec) and emit (impl). Contracts of l28X, l28Z (spec) and the reducer's x, z (impl): a bit of an operator. -/
import Derived.Test.YtmenmibfkojnoaaGreatQ15
import Derived.Test.YtmenmibfkojnoaaGreatQ18
import Derived.Test.YtmenmibfkojnoaaGreatQ01
set_option maxHeartbeats 16000000
namespace Go.Proofs.YtmenmibfkojnoaaGreat
open Go.RowKit
set_option linter.unusedVariables false
theorem idT_row {n k : Nat} (h : k < 2 * n) : (idT n)[k]? = some (if decide (n <= k) = true then zQ (if n <= k then k - n else k) else xQ (if n <= k then k - n else k)) := by
 by_cases hk : n <= k
 ·simp only [hk, decide_true, if_true]
  have := idT_z (n := n) (k := k - n) (by omega)
  rwa [show n + (k - n) = k by omega] at this
 ·simp only [hk, decide_false, if_false]
  exact idT_x (by omega)
set_option maxRecDepth 100000 in
theorem s_IdTab (n : Nat) (w : World) (hn : 1 <= n /\ n <= 4) : Calls Tryz.prog 110 #[.int .i64 (n : Nat)] w (RetTab1 n (2 * n) (idT n) w) := by
 have HI := zH (show inB (n : Int) 1 4 = true from inB_t (by omega) (by omega))
 have R0 := zH (show Bx ((w.alloc (.cells #[.int .i64 0, .slice none 0 0] 73)).alloc (.cells #[.int .i64 (n : Nat), .slice none 0 0] 73)) w.heap.size 73 #[.int .i64 0, .slice none 0 0] from (Bx.new _ _ _).alloc _)
 have M0 := zH (show MB w n (w.heap.size + 1) 0 none 0 ((idT n).take 0) ((w.alloc (.cells #[.int .i64 0, .slice none 0 0] 73)).alloc (.cells #[.int .i64 (n : Nat), .slice none 0 0] 73)) from ⟨Bx.new' (by simp), World.ownsRow_nil _ _ _ _, ((zW).alloc zR _).alloc (by simp) _, by omega, by simp⟩)
 have hz2 : (Value.agg #[.int .i64 0, .int .i64 0, .int .i64 0, .int .i64 0]).cells.size = 4 := rfl
 have n2 : IntKind.i64.wrap (2 * (n : Int)) = 2 * (n : Int) := i64T (by omega) (by omega)
 go_enter Tryz.func110, Tryz.ntmps110
 go_wp2_with fail
 refine (s_in _ _ _ _).mono ?_
 rintro e w1 ⟨rfl, rfl⟩
 rw [HI.out]
 go_wp2_with fail
 go_loopg [4] (2 * n) (fun q i wr => ∃ (k : Nat) (A0 : Option Addr) (c0 : Nat), k + q = 2 * n /\ i = .int .i64 k /\ Bx wr w.heap.size 73 #[.int .i64 0, .slice none 0 0] /\ MB w n (w.heap.size + 1) k A0 c0 ((idT n).take k) wr)
 case atStart => exact ⟨0, none, 0, by omega, rfl, R0.out, M0.out⟩
 case round =>
  clear R0 M0
  obtain ⟨k, A0, c0, hk, rfl, hR, hM⟩ := hrel
  have m0 := hM.1.cell 0
  have m1 := hM.1.cell 1
  have hO := hM.2.2.2.2
  have RR := zH hR
  have MM := zH hM
  clear hR hM
  by_cases hlt : k < 2 * n
  ·obtain ⟨d, hd⟩ : ∃ d, (if decide (n <= k) = true then zQ (if n <= k then k - n else k) else xQ (if n <= k then k - n else k)) = d := ⟨_, rfl⟩
   obtain ⟨j, hj⟩ : ∃ j, (if n <= k then k - n else k) = j := ⟨_, rfl⟩
   obtain ⟨z, hz⟩ : ∃ z, decide (n <= k) = z := ⟨_, rfl⟩
   have HT := zH (show (idT n).take (k + 1) = (idT n).take k ++ [d] by rw [take_snocT (idT_row hlt), hd])
   rw [hj, hz] at hd
   have j4 : j < 4 := by rw [<- hj]; split <;> omega
   have HD := zH hd
   have rm : ((k : Int)).tmod (n : Int) = (j : Int) := by
    rw [Int.tmod_eq_emod_of_nonneg (by omega), <- Int.natCast_emod, <- hj]
    congr 1
    split
    ·rename_i h
     rw [Nat.mod_eq_sub_mod h, Nat.mod_eq_of_lt (by omega)]
    ·exact Nat.mod_eq_of_lt (by omega)
   have rm' : (k : Int) % (n : Int) = (j : Int) := by rw [<- Int.tmod_eq_emod_of_nonneg (by omega)]; exact rm
   have hzz : decide (n <= k) = z := hz
   have hn0 : ¬ (n = 0) := by omega
   clear hj hz hd
   go_wp2_with fail
   have EN : ∀ w5, Below wr.heap.size wr w5 -> MB w n (w.heap.size + 1) k A0 c0 ((idT n).take k) w5 := fun w5 b => MM.out.below b
   go_region_law (first
    |(go_simp; go_at_call 148; (with_reducible refine (s_Single n j z d _ j4 HD.out).mono ?_); rintro e w4 ⟨rfl, b4⟩; have M4 : MB w n (w.heap.size + 1) k A0 c0 ((idT n).take k) w4 := EN _ (below_drew b4); have ⟨e0, e1⟩ := M4.cells; have hO4 := M4.2.2.2.2)
    |(refine step_app (by rfl) (.tmp 18) (.tmp 27) 71 (by rfl) Tryz.underlying71 infoPauli hz2 (by decide) (by simp [Act.eval] <;> rfl) (M4.alloc _).2.1 (by simp [Act.eval] <;> rfl) (Rd.lit _ 151 #[.int .i64 (n : Nat), .int .i64 (d.x : Nat), .int .i64 (d.z : Nat), .int .i64 (d.p : Nat)] 1 4 rfl) (by simp [Value.oneCell']) (by omega) (by decide) (by simp <;> omega) ?_; intro A5 c5 w5 o5 g5; have Y2 := (M4.alloc _).grown g5; have ⟨q0, q1, e0, e1⟩ := Y2.two)
    |fail)
   all_goals go_wp2_with fail
   all_goals go_roundg (gk - 1)
   all_goals first
    |omega
    |exact ⟨k + 1, A5, c5, by omega, by go_num, (M4.alloc _).keeps g5 ((RR.out.below (below_drew b4)).alloc _) (by omega), by rw [HT.out]; exact (M4.alloc _).push g5 o5⟩
  ·obtain rfl : k = 2 * n := by omega
   obtain ⟨r0, r1, r2, r3⟩ := RR.out.two
   have hrs : (idT n).take (2 * n) = idT n := List.take_of_length_le (by rw [idT_len]; exact zR)
   have HM := MM.out
   rw [hrs] at HM
   go_wp2_with fail
   have RB := RR.out
   with_reducible refine ret_S2 RB ?_ ?_ ⟨A0, c0, rfl, ?_, ?_⟩
   ·intro wS z0 z1; simp [results, Tryz.results110, go_sem, z0, z1]
   ·rfl
   ·exact ownsRow_base (ownS2 HM.2.1 (by omega) _ _) (by omega)
   ·exact belowS2 HM.2.2.1 (by omega) _ _
set_option maxRecDepth 100000 in
theorem s_CirTab (n m c : Nat) (A : Option Addr) (l : List Gt) (w : World) (hn : 1 <= n /\ n <= 4) (hr : RdG w A m l) (hm : m <= 60) (hl : ∀ g ∈ l, okN n g = true /\ cliff g.k = true) (hi : okT n (idT n)) :
  Calls Tryz.prog 63 #[.agg #[.int .i64 (n : Nat), .slice A m c]] w (RetTab n (2 * n) (runT n l (idT n)) w) := by
 have X0 := zH (show Bx ((w.alloc (.cells #[.int .i64 (n : Nat), .slice A m c] 45)).alloc (.cells #[.int .i64 0, .slice none 0 0] 73)) w.heap.size 45 _ from (Bx.new w _ _).alloc _)
 have R0 := zH (show Bx ((w.alloc (.cells #[.int .i64 (n : Nat), .slice A m c] 45)).alloc (.cells #[.int .i64 0, .slice none 0 0] 73)) (w.heap.size + 1) 73 #[.int .i64 0, .slice none 0 0] from Bx.new' (by simp))
 have B0 := zH (show Below w.heap.size w ((w.alloc (.cells #[.int .i64 (n : Nat), .slice A m c] 45)).alloc (.cells #[.int .i64 0, .slice none 0 0] 73)) from ((zW).alloc zR _).alloc (by simp) _)
 have HW := zH hr
 have HL := zH hl
 have HT := zH hi
 have HV := zH (okC_t hn (by rw [hr.1]; exact hm) fun g hg => (hl g hg).1)
 have x0 := X0.out.cell 0
 have x1 := X0.out.cell 1
 clear hr hl hi
 go_enter Tryz.func63, Tryz.ntmps63
 go_wp2_with fail
 refine (s_ValC A m c n l _ (HW.out.below B0.out) (by omega)).mono ?_
 rintro e w1 ⟨rfl, b1⟩
 rw [HV.out]
 have X1 := zH (X0.out.below b1)
 have R1 := zH (R0.out.below b1)
 have B1 := zH (below_trans B0.out b1)
 clear b1 X0 R0 B0 x0 x1
 have x0 := X1.out.cell 0
 have x1 := X1.out.cell 1
 go_wp2_with fail
 refine (s_IdTab n _ hn).mono ?_
 rintro e w2 ⟨A0, c0, rfl, o2, b2⟩
 have X2 := zH ((X1.out.below b2).alloc (.cells #[.int .i64 (n : Nat), .slice A0 (2 * n) c0] 73))
 have R2 := zH ((R1.out.below b2).alloc (.cells #[.int .i64 (n : Nat), .slice A0 (2 * n) c0] 73))
 have K2 := zH (show KB w n w2.heap.size A0 c0 (idT n) (w2.alloc (.cells #[.int .i64 (n : Nat), .slice A0 (2 * n) c0] 73)) from ⟨Bx.new _ _ _, ownsRow_base (o2.alloc _) B1.out.size, (below_trans B1.out b2).alloc (Nat.le_trans B1.out.size b2.size) _, Nat.le_trans B1.out.size b2.size⟩)
 have lt2 : w.heap.size + 1 < w2.heap.size := (R1.out.below b2).lt
 clear o2 b2 X1 R1 B1 x0 x1
 have x1 := X2.out.cell 1
 obtain ⟨O, hO⟩ : ∃ O, O = w2.heap.size := ⟨_, rfl⟩
 rw [<- hO] at K2 lt2
 go_wp2_with fail
 rw [<- hO]
 clear hO
 go_loopg [5] m (fun q i wr => ∃ (k : Nat) (A0 : Option Addr) (c0 : Nat) (r : List Pq), k + q = m /\ i = .int .i64 k /\ okT n r /\ runT n (l.drop k) r = runT n l (idT n) /\ Bx wr w.heap.size 45 #[.int .i64 (n : Nat), .slice A m c] /\ Bx wr (w.heap.size + 1) 73 #[.int .i64 0, .slice none 0 0] /\ KB w n O A0 c0 r wr)
 case atStart => exact ⟨0, A0, c0, idT n, by omega, rfl, HT.out, rfl, X2.out, R2.out, K2.out⟩
 case round =>
  clear X2 R2 K2 x1
  obtain ⟨k, A0, c0, r, hk, rfl, hok, hrun, hX, hR, hK⟩ := hrel
  by_cases hlt : k < m
  ·obtain ⟨b, off, g, rfl, hB, hd, y0, y1, y2, y3⟩ := (HW.out.below hK.2.2.1).at_ hlt
   have HG := zH (HL.out g (List.mem_of_mem_drop (i := k) (by rw [hd]; simp)))
   have HRUN := zH (show runT n (l.drop (k + 1)) (appT n g r) = runT n l (idT n) by rw [<- hrun, hd]; rfl)
   have HO2 := zH (appT_ok HG.out.1 HG.out.2 hok)
   have HB := zH hB
   have TK := fun (w5 : World) (b5 : Below wr.heap.size wr w5) => (⟨⟨(hK.below b5).1.cell 0, (hK.below b5).1.cell 1⟩, ⟨(hX.below b5).cell 0, (hX.below b5).cell 1⟩, ((HW.out.below (hK.below b5).2.2.1).cellsAt hd).2⟩ : (w5.cell? ⟨O, 0, none⟩ = some (.int .i64 (n : Nat)) /\ w5.cell? ⟨O, 1, none⟩ = some (.slice A0 (2 * n) c0)) /\ ((w5.cell? ⟨w.heap.size, 0, none⟩ = some (.int .i64 (n : Nat)) /\ w5.cell? ⟨w.heap.size, 1, none⟩ = some (.slice (some ⟨b, off, none⟩) m c)) /\ (w5.cell? ⟨b, off + k * 4, none⟩ = some (.int .i64 g.k) /\ w5.cell? ⟨b, off + k * 4 + 1, none⟩ = some (.int .i64 g.a) /\ w5.cell? ⟨b, off + k * 4 + 2, none⟩ = some (.int .i64 g.b) /\ w5.cell? ⟨b, off + k * 4 + 3, none⟩ = some (.int .i64 g.c))))
   have TK0 := TK _ (Below.refl wr.heap.size wr).drew
   obtain ⟨⟨t0, t1⟩, ⟨x0, x1⟩, _⟩ := TK _ (Below.refl wr.heap.size wr)
   have hS0 := hK.2.2.1.size
   have hi0 : (0 : Int) <= (k : Int) := by omega
   have hi1 : (k : Int) < (m : Int) := by omega
   have HOK := zH hok
   have HD := zH hd
   clear hd hrun hok
   go_wp2_with fail
   go_cut [6, 7] (fun s6 s7 wx => ∃ P A5 c5, s6 = .pointer (some ⟨P, 0, none⟩) /\ s7 = .bool true /\ Bx wx P 73 #[.int .i64 (n : Nat), .slice A5 (2 * n) c5] /\ wx.ownsRow w.heap.size 151 4 (.slice A5 (2 * n) c5) (2 * n) (cellsG (pgs n (appT n g r))) /\ Bx wx w.heap.size 45 #[.int .i64 (n : Nat), .slice (some ⟨b, off, none⟩) m c] /\ Bx wx (w.heap.size + 1) 73 #[.int .i64 0, .slice none 0 0] /\ KB w n O A0 c0 r wx)
   case first =>
    go_region_held3 (fun w' => (w'.cell? ⟨O, 0, none⟩ = some (.int .i64 (n : Nat)) /\ w'.cell? ⟨O, 1, none⟩ = some (.slice A0 (2 * n) c0)) /\ ((w'.cell? ⟨w.heap.size, 0, none⟩ = some (.int .i64 (n : Nat)) /\ w'.cell? ⟨w.heap.size, 1, none⟩ = some (.slice (some ⟨b, off, none⟩) m c)) /\ (w'.cell? ⟨b, off + k * 4, none⟩ = some (.int .i64 g.k) /\ w'.cell? ⟨b, off + k * 4 + 1, none⟩ = some (.int .i64 g.a) /\ w'.cell? ⟨b, off + k * 4 + 2, none⟩ = some (.int .i64 g.b) /\ w'.cell? ⟨b, off + k * 4 + 3, none⟩ = some (.int .i64 g.c))))
     (first
      |exact TK _ ((Below.refl wr.heap.size wr).drew)
      |exact TK _ (((Below.refl wr.heap.size wr).alloc zR _).drew)
      |exact TK _ (((Below.refl wr.heap.size wr).drew).alloc zR _)
      |exact TK _ (below_drew b5)
      |exact TK _ (below_trans ((Below.refl wr.heap.size wr).alloc zR _).drew b5)
      |exact TK _ (below_trans ((Below.refl wr.heap.size wr).drew.alloc zR _) b5)
      |exact TK _ ((below_drew b5).alloc (by simpa using b5.size) _)
      |exact TK _ (belowS2 (below_trans ((Below.refl wr.heap.size wr).alloc zR _).drew b5) zR _ _)
      |exact TK _ (belowS2 (below_trans ((Below.refl wr.heap.size wr).drew.alloc zR _) b5) zR _ _)
      |exact TK _ ((belowS2 (below_trans ((Below.refl wr.heap.size wr).alloc zR _).drew b5) zR _ _).drew)
      |exact TK _ ((belowS2 (below_trans ((Below.refl wr.heap.size wr).drew.alloc zR _) b5) zR _ _).drew)
      |exact TK _ ((below_drew b5).drew)
      |exact TK _ ((below_trans ((Below.refl wr.heap.size wr).alloc zR _).drew b5).drew)
      |exact TK _ ((below_trans ((Below.refl wr.heap.size wr).drew.alloc zR _) b5).drew)
      |go_keep)
     (first
      |(go_at_call 111; (first | refine (s_TabApp n (2 * n) c0 A0 r g _ hn hK.drew.rd hK.cap HOK.out HG.out.1 HG.out.2).mono ?_ | refine (s_TabApp n (2 * n) c0 A0 r g _ hn (hK.alloc _).drew.rd hK.cap HOK.out HG.out.1 HG.out.2).mono ?_ | refine (s_TabApp n (2 * n) c0 A0 r g _ hn (hK.drew.alloc _).rd hK.cap HOK.out HG.out.1 HG.out.2).mono ?_); rintro e w5 ⟨A5, c5, rfl, o5, b5⟩; first | (have PB : Bx w5 wr.heap.size 73 #[.int .i64 0, .slice none 0 0] := (Bx.new wr 73 #[.int .i64 0, .slice none 0 0]).drew.below b5; obtain ⟨x0, x1, x2, x3⟩ := PB.two) | (have PB : Bx w5 wr.heap.size 73 #[.int .i64 0, .slice none 0 0] := (Bx.new wr.drew 73 #[.int .i64 0, .slice none 0 0]).below b5; obtain ⟨x0, x1, x2, x3⟩ := PB.two) | skip)
      |fail)
    all_goals go_wp2_with fail
    all_goals go_meet
    all_goals first
     |exact ⟨_, A5, c5, rfl, rfl, Bx.new _ _ _, ownsRow_base (o5.alloc _) (by simpa using hS0), hX.below ((below_drew b5).alloc (by simpa using b5.size) _), hR.below ((below_drew b5).alloc (by simpa using b5.size) _), hK.below ((below_drew b5).alloc (by simpa using b5.size) _)⟩
     |(have PB1 : Bx (w5.setCell ⟨wr.heap.size, 0, none⟩ (.int .i64 (n : Nat))) wr.heap.size 73 #[.int .i64 (n : Nat), .slice none 0 0] := (by simpa using PB.set_ 0 (.int .i64 (n : Nat))); exact ⟨_, A5, c5, rfl, rfl, PB.set2 _ _, ownsRow_base (own_farT (own_farT o5 PB (by decide) 0 _) PB1 (by decide) 1 _) (by simpa using Nat.le_succ_of_le hS0), hX.below (belowS2 (below_trans ((Below.refl wr.heap.size wr).alloc zR _).drew b5) zR _ _), hR.below (belowS2 (below_trans ((Below.refl wr.heap.size wr).alloc zR _).drew b5) zR _ _), hK.below (belowS2 (below_trans ((Below.refl wr.heap.size wr).alloc zR _).drew b5) zR _ _)⟩)
     |(have PB1 : Bx (w5.setCell ⟨wr.heap.size, 0, none⟩ (.int .i64 (n : Nat))) wr.heap.size 73 #[.int .i64 (n : Nat), .slice none 0 0] := (by simpa using PB.set_ 0 (.int .i64 (n : Nat))); exact ⟨_, A5, c5, rfl, rfl, PB.set2 _ _, ownsRow_base (own_farT (own_farT o5 PB (by decide) 0 _) PB1 (by decide) 1 _) (by simpa using Nat.le_succ_of_le hS0), hX.below (belowS2 (below_trans ((Below.refl wr.heap.size wr).drew.alloc zR _) b5) zR _ _), hR.below (belowS2 (below_trans ((Below.refl wr.heap.size wr).drew.alloc zR _) b5) zR _ _), hK.below (belowS2 (below_trans ((Below.refl wr.heap.size wr).drew.alloc zR _) b5) zR _ _)⟩)
   case rest =>
    obtain ⟨P, A5, c5, rfl, rfl, hP, hO5, hX5, hR5, hK5⟩ := hcut
    clear TK TK0 hX hR hK t0 t1 x0 x1
    have X5 := zH hX5
    have R5 := zH hR5
    have K5 := zH hK5
    have O5 := zH hO5
    obtain ⟨y0', y1', _⟩ := hP.two
    obtain ⟨t0, t1, t2, t3⟩ := K5.out.cells
    clear hP hO5 hX5 hR5 hK5
    go_wp2_with fail
    go_roundg (gk - 1)
    all_goals first
     |omega
     |exact ⟨k + 1, A5, c5, appT n g r, by omega, by go_num, HO2.out, HRUN.out, X5.out.far2 (by omega) _ _, R5.out.far2 (by omega) _ _, K5.out.put O5.out⟩
  ·obtain rfl : k = m := by omega
   have xe := hX.cell 1
   have hfin : r = runT n l (idT n) := by rw [<- hrun, List.drop_eq_nil_of_le (by rw [HW.out.1]; exact zR)]; rfl
   rw [hfin] at hK
   have K5 := zH hK
   have R5 := zH hR
   obtain ⟨t0, t1, _⟩ := K5.out.cells
   obtain ⟨r0, r1, r2, r3⟩ := R5.out.two
   clear hX hR hK hrun hfin hok
   go_wp2_with fail
   have RB := R5.out
   have hne : w.heap.size + 1 ≠ O := by omega
   have h1 : Bx (wr.setCell ⟨w.heap.size + 1, 0, none⟩ (.int .i64 (n : Nat))) (w.heap.size + 1) 73 #[.int .i64 (n : Nat), .slice none 0 0] := by simpa using RB.set_ 0 (.int .i64 (n : Nat))
   with_reducible refine ret_S2 RB ?_ ?_ ⟨A0, c0, rfl, ?_, ?_⟩
   ·intro wS z0 z1; simp [results, Tryz.results63, go_sem, z0, z1]
   ·rfl
   ·exact own_farT (own_farT K5.out.2.1 RB (by decide) 0 _) h1 (by decide) 1 _
   ·exact belowS2 K5.out.2.2.1 (by omega) _ _
theorem own_own_neT {w : World} {b b' : Nat} {e e' : TypeId} {sz sz' n n' : Nat} {v v' : Value} {xs xs' : List Value} (h : w.ownsRow b e sz v n xs) (h' : w.ownsRow b' e' sz' v' n' xs') (hne : e ≠ e') : v.ownBlock = none ∨ v.ownBlock ≠ v'.ownBlock := by
 rcases h.2 with ⟨rfl, _⟩ | ⟨g, cap, cur, rfl, _, hh, _⟩
 ·exact .inl rfl
 ·right
  intro he
  rcases h'.2 with ⟨rfl, _⟩ | ⟨g', cap', cur', rfl, _, hh', _⟩
  ·cases he
  ·simp only [Value.ownBlock, Option.some.injEq] at he
   subst he
   rw [hh] at hh'
   injection hh' with hh'
   injection hh' with _ h2
   exact hne h2
theorem Bx.three {wx : World} {g t : Nat} {x y z : Value} (h : Bx wx g t #[x, y, z]) : wx.cell? ⟨g, 0, none⟩ = some x /\ wx.cell? ⟨g, 1, none⟩ = some y /\ wx.cell? ⟨g, 2, none⟩ = some z /\ wx.frozen? ⟨g, 0, none⟩ = false /\ wx.frozen? ⟨g, 1, none⟩ = false /\ wx.frozen? ⟨g, 2, none⟩ = false := ⟨h.cell 0, h.cell 1, h.cell 2, h.free 0, h.free 1, h.free 2⟩
def WS (R W : Nat) (t : TypeId) (n : Nat) (r : List Pq) (l : List Gt) (A0 : Option Addr) (c0 : Nat) (A1 : Option Addr) (c1 : Nat) (wx : World) : Prop :=
 Bx wx W t #[.int .i64 (n : Nat), .slice A0 (2 * n) c0, .slice A1 l.length c1] /\ wx.ownsRow R 151 4 (.slice A0 (2 * n) c0) (2 * n) (cellsG (pgs n r)) /\ wx.ownsRow R 39 4 (.slice A1 l.length c1) l.length (cellsG l) /\ R <= W
section
variable {R W n c0 c1 c5 : Nat} {t : TypeId} {r r5 : List Pq} {l : List Gt} {A0 A1 A5 : Option Addr} {w wx w' : World}
theorem WS.below (h : WS R W t n r l A0 c0 A1 c1 wx) (hb : Below wx.heap.size wx w') : WS R W t n r l A0 c0 A1 c1 w' := ⟨h.1.below hb, ownsRow_below h.2.1 hb, ownsRow_below h.2.2.1 hb, h.2.2.2⟩
theorem WS.alloc (h : WS R W t n r l A0 c0 A1 c1 wx) (o : Obj) : WS R W t n r l A0 c0 A1 c1 (wx.alloc o) := h.below ((zW).alloc zR _)
theorem WS.drew (h : WS R W t n r l A0 c0 A1 c1 wx) : WS R W t n r l A0 c0 A1 c1 wx.drew := h.below (zW).drew
theorem WS.rd (h : WS R W t n r l A0 c0 A1 c1 wx) : RdG wx A0 (2 * n) (pgs n r) := RdG.own h.2.1
theorem WS.cap (h : WS R W t n r l A0 c0 A1 c1 wx) : 2 * n <= c0 := ownsRow_cap h.2.1
theorem WS.le (h : WS R W t n r l A0 c0 A1 c1 wx) : R <= wx.heap.size := by have := h.1.lt; have := h.2.2.2; omega
theorem WS.put (h : WS R W t n r l A0 c0 A1 c1 wx) (hp : t ≠ 151) (hg : t ≠ 39) (ho : wx.ownsRow R 151 4 (.slice A5 (2 * n) c5) (2 * n) (cellsG (pgs n r5))) : WS R W t n r5 l A5 c5 A1 c1 (S2 wx W (.int .i64 (n : Nat)) (.slice A5 (2 * n) c5)) := by
 have h0 : Bx (wx.setCell ⟨W, 0, none⟩ (.int .i64 (n : Nat))) W t #[.int .i64 (n : Nat), .slice A0 (2 * n) c0, .slice A1 l.length c1] := by simpa using h.1.set_ 0 (.int .i64 (n : Nat))
 have h1 : Bx (S2 wx W (.int .i64 (n : Nat)) (.slice A5 (2 * n) c5)) W t #[.int .i64 (n : Nat), .slice A5 (2 * n) c5, .slice A1 l.length c1] := by simpa using h0.set_ 1 (.slice A5 (2 * n) c5)
 exact ⟨h1, own_farT (own_farT ho h.1 (fun e => hp e.symm) 0 _) h0 (fun e => hp e.symm) 1 _, own_farT (own_farT h.2.2.1 h.1 (fun e => hg e.symm) 0 _) h0 (fun e => hg e.symm) 1 _, h.2.2.2⟩
theorem WS.push {w5 : World} {g : Gt} (h : WS R W t n r l A0 c0 A1 c1 wx) (hp : t ≠ 151) (hg : t ≠ 39) (hgr : wx.grownBy w5 (Value.slice A1 l.length c1).ownBlock) (ho : w5.ownsRow R 39 4 (.slice A5 (l.length + 1) c5) (l.length + 1) (cellsG l ++ [.int .i64 g.k, .int .i64 g.a, .int .i64 g.b, .int .i64 g.c])) :
  WS R W t n r (l ++ [g]) A0 c0 A5 c5 (w5.setCell ⟨W, 2, none⟩ (.slice A5 (l.length + 1) c5)) := by
 have hB : Bx w5 W t #[.int .i64 (n : Nat), .slice A0 (2 * n) c0, .slice A1 l.length c1] := kept_app h.2.2.1 hgr h.1 (fun e => hg e.symm)
 have hl : (l ++ [g]).length = l.length + 1 := by simp
 have hrow : w5.ownsRow R 151 4 (.slice A0 (2 * n) c0) (2 * n) (cellsG (pgs n r)) := by
  refine h.2.1.kept hgr ?_
  exact own_own_neT h.2.1 h.2.2.1 (by decide)
 have e : cellsG (l ++ [g]) = cellsG l ++ [.int .i64 g.k, .int .i64 g.a, .int .i64 g.b, .int .i64 g.c] := by rw [cellsG_append]; rfl
 unfold WS
 rw [hl, e]
 exact ⟨by simpa using hB.set_ 2 (.slice A5 (l.length + 1) c5), own_farT hrow hB (fun e => hp e.symm) 2 _, own_farT ho hB (fun e => hg e.symm) 2 _, h.2.2.2⟩
end
set_option maxRecDepth 100000 in
theorem s_28X (n k : Nat) (a : Pq) (w : World) (hx : a.x < 16) (hk : k < 4) : Calls Tryz.prog 187 #[.agg #[.int .i64 (n : Nat), .int .i64 (a.x : Nat), .int .i64 (a.z : Nat), .int .i64 (a.p : Nat)], .int .i64 (k : Nat)] w fun e w' => e = .returned (.bool (bitB a.x k)) /\ Below w.heap.size w w' := by
 have BX := bitT hx hk
 go_enter Tryz.func187, Tryz.ntmps187
 go_wp2_with fail
 go_ret
 exact ⟨rfl, (zW).alloc zR _⟩
set_option maxRecDepth 100000 in
theorem s_28Z (n k : Nat) (a : Pq) (w : World) (hx : a.z < 16) (hk : k < 4) : Calls Tryz.prog 188 #[.agg #[.int .i64 (n : Nat), .int .i64 (a.x : Nat), .int .i64 (a.z : Nat), .int .i64 (a.p : Nat)], .int .i64 (k : Nat)] w fun e w' => e = .returned (.bool (bitB a.z k)) /\ Below w.heap.size w w' := by
 have BX := bitT hx hk
 go_enter Tryz.func188, Tryz.ntmps188
 go_wp2_with fail
 go_ret
 exact ⟨rfl, (zW).alloc zR _⟩
set_option maxRecDepth 100000 in
theorem i_rX (R W n i k c0 c1 : Nat) (ii : Int) (A0 A1 : Option Addr) (r : List Pq) (l : List Gt) (a : Pq) (w : World) (h : WS R W 163 n r l A0 c0 A1 c1 w) (ha : r[i]? = some a) (hii : ii = (i : Nat)) (hi : i < 2 * n) (hn : n <= 4) (hx : a.x < 16) (hk : k < 4) : Calls Tryz.prog 196 #[.pointer (some ⟨W, 0, none⟩), .int .i64 ii, .int .i64 (k : Nat)] w fun e w' => e = .returned (.bool (bitB a.x k)) /\ w = w' := by
 subst hii
 have BX := bitT hx hk
 obtain ⟨b, off, rfl⟩ := h.rd.first (by omega)
 obtain ⟨_, c0', c1', c2', c3'⟩ := h.rd.cellsAt (pgs_drop ha)
 simp only [pg] at c0' c1' c2' c3'
 obtain ⟨t0, t1, t2, _⟩ := h.1.three
 have km : (i : Int) < ((2 * n : Nat) : Int) := by omega
 clear ha h
 go_enter Tryz.func196, Tryz.ntmps196
 go_wp2_with fail
 go_ret
 exact ⟨rfl, rfl⟩
set_option maxRecDepth 100000 in
theorem i_rZ (R W n i k c0 c1 : Nat) (ii : Int) (A0 A1 : Option Addr) (r : List Pq) (l : List Gt) (a : Pq) (w : World) (h : WS R W 163 n r l A0 c0 A1 c1 w) (ha : r[i]? = some a) (hii : ii = (i : Nat)) (hi : i < 2 * n) (hn : n <= 4) (hx : a.z < 16) (hk : k < 4) : Calls Tryz.prog 197 #[.pointer (some ⟨W, 0, none⟩), .int .i64 ii, .int .i64 (k : Nat)] w fun e w' => e = .returned (.bool (bitB a.z k)) /\ w = w' := by
 subst hii
 have BX := bitT hx hk
 obtain ⟨b, off, rfl⟩ := h.rd.first (by omega)
 obtain ⟨_, c0', c1', c2', c3'⟩ := h.rd.cellsAt (pgs_drop ha)
 simp only [pg] at c0' c1' c2' c3'
 obtain ⟨t0, t1, t2, _⟩ := h.1.three
 have km : (i : Int) < ((2 * n : Nat) : Int) := by omega
 clear ha h
 go_enter Tryz.func197, Tryz.ntmps197
 go_wp2_with fail
 go_ret
 exact ⟨rfl, rfl⟩
theorem row_comm {r : List Pq} {n q : Nat} {a : Pq} (h : r[n + q]? = some a) : r[q + n]? = some a := by rw [Nat.add_comm]; exact h
end Go.Proofs.YtmenmibfkojnoaaGreat
