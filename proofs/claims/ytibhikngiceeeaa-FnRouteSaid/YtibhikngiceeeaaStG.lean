/- Contracts of l10Phase, l10Flip, l10Goes (spec): where an amplitude is sent. Places below 16, qubits below 4. -/
import Derived.Test.YtibhikngiceeeaaStA
import Derived.Deep.DeepCutAuto
namespace Go.Proofs.Ytibhikngiceeeaa
open Go.RowKit
set_option linter.unusedVariables false

theorem xor_all : ∀ i : Fin 16, ∀ q : Fin 4, bits .xor .i64 ((i : Nat) : Int) (wrap64 (2 ^ (q : Nat))) = ((flipN i q : Nat) : Int) := by decide +kernel
theorem xor_flip {i q : Nat} (hi : i < 16) (hq : q < 4) : bits .xor .i64 (i : Int) (wrap64 (2 ^ q)) = (flipN i q : Nat) := xor_all ⟨i, hi⟩ ⟨q, hq⟩
theorem and_all : ∀ i : Fin 16, ∀ q : Fin 4, (bits .and .i64 (((i : Nat) : Int) / 2 ^ (q : Nat)) 1 == 1) = bitB i q := by decide +kernel
theorem and_bit {i q : Nat} (hi : i < 16) (hq : q < 4) : (bits .and .i64 ((i : Int) / 2 ^ q) 1 == 1) = bitB i q := and_all ⟨i, hi⟩ ⟨q, hq⟩
theorem ownsRow_lit' (w : World) {base k : Nat} {e : TypeId} {size : Nat} (cs : Array Value) (n : Nat) {l : List Value} (hb : base ≤ w.heap.size) (hk : k = w.heap.size) (hn : n ≤ maxLen) (hs : cs.size = n * size) (hl : cs.toList = l) : (w.alloc (.cells cs e)).ownsRow base e size (.slice (some ⟨k, 0, none⟩) n n) n l := by
  subst hk hl
  exact World.ownsRow_lit w cs n hb hn hs
theorem isqD_eq : isqD = ⟨⟨1, 0, 0, 0⟩, 1⟩ := rfl
theorem negD_isq : negD ⟨⟨1, 0, 0, 0⟩, 1⟩ = ⟨⟨-1, 0, 0, 0⟩, 1⟩ := by decide
theorem shl_all : ∀ q : Fin 4, IntKind.i64.wrap (2 ^ min (IntKind.u64.wrap ((q : Nat) : Int)).toNat 64) = wrap64 (2 ^ (q : Nat)) := by decide +kernel
theorem shl_raw {q : Nat} (hq : q < 4) : IntKind.i64.wrap (2 ^ min (IntKind.u64.wrap (q : Int)).toNat 64) = wrap64 (2 ^ q) := shl_all ⟨q, hq⟩
theorem low_all : ∀ i : Fin 16, ∀ q : Fin 4, bits .andNot .i64 ((i : Nat) : Int) (wrap64 (2 ^ (q : Nat))) = ((if bitB i q then flipN i q else i : Nat) : Int) ∧ bits .or .i64 ((if bitB i q then flipN i q else i : Nat) : Int) (wrap64 (2 ^ (q : Nat))) = ((if bitB i q then i else flipN i q : Nat) : Int) := by decide +kernel
theorem low_bit {i q : Nat} (hi : i < 16) (hq : q < 4) : bits .andNot .i64 (i : Int) (wrap64 (2 ^ q)) = ((if bitB i q then flipN i q else i : Nat) : Int) ∧ bits .or .i64 ((if bitB i q then flipN i q else i : Nat) : Int) (wrap64 (2 ^ q)) = ((if bitB i q then i else flipN i q : Nat) : Int) := low_all ⟨i, hi⟩ ⟨q, hq⟩
theorem flip_lt_all : ∀ i : Fin 16, ∀ q : Fin 4, flipN i q < 16 := by decide +kernel
theorem flip_lt {i q : Nat} (hi : i < 16) (hq : q < 4) : flipN i q < 16 := flip_lt_all ⟨i, hi⟩ ⟨q, hq⟩
set_option maxHeartbeats 1600000 in
theorem s_l10Phase (i k : Nat) (t : Bool) (w : World) (hk : k < 8) : Calls Try.prog 174 #[.int .i64 i, .bool t, .int .i64 k] w (Ret 181 6 (cellsS (phG i t k)) 1 w) := by
  cases t
  · go_enter Try.func174, Try.ntmps174
    go_wp2_with fail
    refine (s_Phase 0 _ (by omega)).mono ?_
    rintro e w1 ⟨rfl, b1⟩
    go_wp2_with fail
    go_ret
    exact ⟨_, _, rfl, World.ownsRow_lit w1 #[.int .i64 i, .int .i64 (phD 0).n.a, .int .i64 (phD 0).n.b, .int .i64 (phD 0).n.c, .int .i64 (phD 0).n.d, .int .i64 (phD 0).e] 1 b1.size (by simp [maxLen]) rfl, b1.alloc b1.size _⟩
  · go_enter Try.func174, Try.ntmps174
    go_wp2_with fail
    refine (s_Phase k _ (by omega)).mono ?_
    rintro e w1 ⟨rfl, b1⟩
    go_wp2_with fail
    go_ret
    exact ⟨_, _, rfl, World.ownsRow_lit w1 #[.int .i64 i, .int .i64 (phD k).n.a, .int .i64 (phD k).n.b, .int .i64 (phD k).n.c, .int .i64 (phD k).n.d, .int .i64 (phD k).e] 1 b1.size (by simp [maxLen]) rfl, b1.alloc b1.size _⟩

set_option maxHeartbeats 1600000 in
theorem s_l10Flip (i q : Nat) (t : Bool) (w : World) (hi : i < 16) (hq : q < 4) : Calls Try.prog 173 #[.int .i64 i, .int .i64 q, .bool t] w (Ret 181 6 (cellsS (flG i q t)) 1 w) := by
  cases t
  · go_enter Try.func173, Try.ntmps173
    go_wp2_with fail
    refine (s_Phase 0 _ (by omega)).mono ?_
    rintro e w1 ⟨rfl, b1⟩
    go_wp2_with fail
    go_ret
    exact ⟨_, _, rfl, World.ownsRow_lit w1 #[.int .i64 i, .int .i64 (phD 0).n.a, .int .i64 (phD 0).n.b, .int .i64 (phD 0).n.c, .int .i64 (phD 0).n.d, .int .i64 (phD 0).e] 1 b1.size (by simp [maxLen]) rfl, b1.alloc b1.size _⟩
  · go_enter Try.func173, Try.ntmps173
    go_wp2_with fail
    rw [xor_flip hi hq]
    refine (s_Phase 0 _ (by omega)).mono ?_
    rintro e w1 ⟨rfl, b1⟩
    go_wp2_with fail
    go_ret
    exact ⟨_, _, rfl, World.ownsRow_lit w1 #[.int .i64 (flipN i q : Nat), .int .i64 (phD 0).n.a, .int .i64 (phD 0).n.b, .int .i64 (phD 0).n.c, .int .i64 (phD 0).n.d, .int .i64 (phD 0).e] 1 b1.size (by simp [maxLen]) rfl, b1.alloc b1.size _⟩

set_option maxRecDepth 100000 in
set_option maxHeartbeats 6400000 in
theorem s_l10Goes (g : Gt) (p q r i : Nat) (w : World) (ha : g.a = p) (hb : g.b = q) (hc : g.c = r) (hp : p < 4) (hq : q < 4) (hr : r < 4) (hi : i < 16) (hk : 1 ≤ g.k ∧ g.k ≤ 12) : Calls Try.prog 160 #[.agg #[.int .i64 g.k, .int .i64 g.a, .int .i64 g.b, .int .i64 g.c], .int .i64 i] w (Ret 181 6 (cellsS (goes g i)) (goes g i).length w) := by
  obtain ⟨k, a, b, c⟩ := g
  simp only at ha hb hc hk
  subst ha hb hc
  go_enter Try.func160, Try.ntmps160
  go_upto_region 3 with fail
  rw [and_bit hi hp, and_bit hi hq]
  obtain ⟨x, hx⟩ : ∃ x, bitB i p = x := ⟨_, rfl⟩
  obtain ⟨y, hy⟩ : ∃ y, bitB i q = y := ⟨_, rfl⟩
  rw [hx, hy]
  have HX := Lib.hid hx
  have HY := Lib.hid hy
  have X0 := Lib.hid (show Bx (w.alloc (.cells #[.int .i64 k, .int .i64 p, .int .i64 q, .int .i64 r] 55)) w.heap.size 55 #[.int .i64 k, .int .i64 p, .int .i64 q, .int .i64 r] from Bx.new w _ _)
  have hB : Hid (Below w.heap.size w (w.alloc (.cells #[.int .i64 k, .int .i64 p, .int .i64 q, .int .i64 r] 55))) := Lib.hid ((Below.refl _ _).alloc (Nat.le_refl _) _)
  clear hx hy
  obtain rfl | rfl | rfl | rfl | rfl | rfl | rfl | rfl | rfl | rfl | rfl | rfl : k = 1 ∨ k = 2 ∨ k = 3 ∨ k = 4 ∨ k = 5 ∨ k = 6 ∨ k = 7 ∨ k = 8 ∨ k = 9 ∨ k = 10 ∨ k = 11 ∨ k = 12 := by omega
  · have e1 : goes ⟨1, p, q, r⟩ i = flG i p true := by simp [goes]
    have E1 := Lib.hid e1
    clear e1
    go_wp2_with fail
    refine (s_l10Flip i p true _ hi hp).mono ?_
    rintro e w1 ⟨A, c', rfl, o1, b1⟩
    go_wp2_with fail
    go_ret
    rw [E1.out]
    exact ⟨A, c', rfl, ownsRow_base o1 (by simp), hB.out.trans (b1.mono hB.out.size)⟩
  · have e1 : goes ⟨2, p, q, r⟩ i = [(flipN i p, phD (if x then 6 else 2))] := by simp [goes, HX.out]
    have E1 := Lib.hid e1
    clear e1
    cases x
    · go_upto_region 10 with fail
      go_cut [4] (fun v wx => ∃ A c', v = .slice A 1 c' ∧ wx.ownsRow w.heap.size 181 6 (.slice A 1 c') 1 (cellsS [(flipN i p, phD 2)]) ∧ Below w.heap.size w wx)
      case first =>
        have XD := X0.out.drew
        have BD := hB.out.drew
        obtain ⟨p0, p1, p2, p3, _⟩ := XD.four
        go_region_held3 (fun w' => w'.cell? ⟨w.heap.size, 1, none⟩ = some (.int .i64 p)) (first | exact r1 | go_keep)
          (first
            | (go_at_call 46; refine (s_Phase 2 _ (by omega)).mono ?_; rintro e w1 ⟨rfl, b1⟩; have B1 := BD.trans (b1.mono (Below.size BD)); have ⟨r0, r1, r2, r3, _⟩ := (XD.below b1).four)
            | fail)
        all_goals go_wp2_with fail
        all_goals go_meet
        all_goals rw [shl_raw hp, xor_flip hi hp]
        all_goals exact ⟨_, _, rfl, World.ownsRow_lit w1 #[.int .i64 (flipN i p : Nat), .int .i64 (phD 2).n.a, .int .i64 (phD 2).n.b, .int .i64 (phD 2).n.c, .int .i64 (phD 2).n.d, .int .i64 (phD 2).e] 1 (Below.size B1) (by simp [maxLen]) rfl, B1.alloc (Below.size B1) _⟩
      case rest =>
        obtain ⟨A, c', rfl, o1, bb⟩ := hcut
        go_wp2_with fail
        go_ret
        rw [E1.out]
        exact ⟨A, c', rfl, o1, bb⟩
    · go_upto_region 10 with fail
      go_cut [4] (fun v wx => ∃ A c', v = .slice A 1 c' ∧ wx.ownsRow w.heap.size 181 6 (.slice A 1 c') 1 (cellsS [(flipN i p, phD 6)]) ∧ Below w.heap.size w wx)
      case first =>
        have XD := X0.out.drew
        have BD := hB.out.drew
        obtain ⟨p0, p1, p2, p3, _⟩ := XD.four
        go_region_held3 (fun w' => w'.cell? ⟨w.heap.size, 1, none⟩ = some (.int .i64 p)) (first | exact r1 | go_keep)
          (first
            | (go_at_call 46; refine (s_Phase 6 _ (by omega)).mono ?_; rintro e w1 ⟨rfl, b1⟩; have B1 := BD.trans (b1.mono (Below.size BD)); have ⟨r0, r1, r2, r3, _⟩ := (XD.below b1).four)
            | fail)
        all_goals go_wp2_with fail
        all_goals go_meet
        all_goals rw [shl_raw hp, xor_flip hi hp]
        all_goals exact ⟨_, _, rfl, World.ownsRow_lit w1 #[.int .i64 (flipN i p : Nat), .int .i64 (phD 6).n.a, .int .i64 (phD 6).n.b, .int .i64 (phD 6).n.c, .int .i64 (phD 6).n.d, .int .i64 (phD 6).e] 1 (Below.size B1) (by simp [maxLen]) rfl, B1.alloc (Below.size B1) _⟩
      case rest =>
        obtain ⟨A, c', rfl, o1, bb⟩ := hcut
        go_wp2_with fail
        go_ret
        rw [E1.out]
        exact ⟨A, c', rfl, o1, bb⟩
  · have e1 : goes ⟨3, p, q, r⟩ i = phG i x 4 := by simp [goes, HX.out]
    have E1 := Lib.hid e1
    clear e1
    go_wp2_with fail
    refine (s_l10Phase i 4 x _ (by omega)).mono ?_
    rintro e w1 ⟨A, c', rfl, o1, b1⟩
    go_wp2_with fail
    go_ret
    rw [E1.out]
    exact ⟨A, c', rfl, ownsRow_base o1 (by simp), hB.out.trans (b1.mono hB.out.size)⟩
  · have LO := Lib.hid (low_bit hi hp)
    rw [HX.out] at LO
    cases x
    · have E1 := Lib.hid (show goes ⟨4, p, q, r⟩ i = [(i, ⟨⟨1, 0, 0, 0⟩, 1⟩), (flipN i p, ⟨⟨1, 0, 0, 0⟩, 1⟩)] by simp [goes, HX.out, isqD])
      have L1 := Lib.hid (show bits .andNot .i64 (i : Int) (wrap64 (2 ^ p)) = ((i : Nat) : Int) from LO.out.1)
      have L2 := Lib.hid (show bits .or .i64 ((i : Nat) : Int) (wrap64 (2 ^ p)) = ((flipN i p : Nat) : Int) from LO.out.2)
      clear LO
      go_upto_region 32 with fail
      rw [L1.out]
      go_wp2_with fail
      refine (s_Isq _).mono ?_
      rintro e w1 ⟨rfl, b1⟩
      have G1 := Lib.hid (X0.out.below b1)
      have B1 := Lib.hid (hB.out.trans (b1.mono hB.out.size))
      clear b1
      obtain ⟨p0, p1, p2, p3, _⟩ := G1.out.four
      have gl := G1.out.lt
      go_wp2_with fail
      rw [L2.out]
      go_ret
      rw [E1.out]
      have B2 := B1.out.alloc B1.out.size (.cells #[.int .i64 1, .int .i64 0, .int .i64 0, .int .i64 0, .int .i64 1] 83)
      have B3 := B2.alloc B2.size (.cells #[.int .i64 1, .int .i64 0, .int .i64 0, .int .i64 0, .int .i64 1] 83)
      refine ⟨_, _, rfl, ?_, B3.alloc B3.size _⟩
      exact ownsRow_lit' _ #[.int .i64 i, .int .i64 1, .int .i64 0, .int .i64 0, .int .i64 0, .int .i64 1, .int .i64 (flipN i p : Nat), .int .i64 1, .int .i64 0, .int .i64 0, .int .i64 0, .int .i64 1] 2 B3.size (by simp) (by simp [maxLen]) rfl rfl
    · have E1 := Lib.hid (show goes ⟨4, p, q, r⟩ i = [(flipN i p, ⟨⟨1, 0, 0, 0⟩, 1⟩), (i, ⟨⟨-1, 0, 0, 0⟩, 1⟩)] by simp [goes, HX.out, negD_isq, isqD_eq])
      have L1 := Lib.hid (show bits .andNot .i64 (i : Int) (wrap64 (2 ^ p)) = ((flipN i p : Nat) : Int) from LO.out.1)
      have L2 := Lib.hid (show bits .or .i64 ((flipN i p : Nat) : Int) (wrap64 (2 ^ p)) = ((i : Nat) : Int) from LO.out.2)
      clear LO
      go_upto_region 32 with fail
      rw [L1.out]
      go_wp2_with fail
      refine (s_Isq _).mono ?_
      rintro e w1 ⟨rfl, b1⟩
      have G1 := Lib.hid (X0.out.below b1)
      have B1 := Lib.hid (hB.out.trans (b1.mono hB.out.size))
      clear b1
      have O1 := Lib.hid (Bx.new w1 83 #[.int .i64 1, .int .i64 0, .int .i64 0, .int .i64 0, .int .i64 1])
      have O2 := Lib.hid (Bx.new (w1.alloc (.cells #[.int .i64 1, .int .i64 0, .int .i64 0, .int .i64 0, .int .i64 1] 83)) 83 #[.int .i64 1, .int .i64 0, .int .i64 0, .int .i64 0, .int .i64 1])
      go_wp2_with fail
      refine (s_NegD1 _).mono ?_
      rintro e w2 ⟨rfl, b2⟩
      have hs12 : (w1.alloc (.cells #[.int .i64 1, .int .i64 0, .int .i64 0, .int .i64 0, .int .i64 1] 83)).heap.size = w1.heap.size + 1 := by simp
      have Q1 := Lib.hid ((O1.out.alloc (.cells #[.int .i64 1, .int .i64 0, .int .i64 0, .int .i64 0, .int .i64 1] 83)).below b2)
      have Q2 := Lib.hid (show Bx w2 (w1.heap.size + 1) 83 #[.int .i64 1, .int .i64 0, .int .i64 0, .int .i64 0, .int .i64 1] from hs12 ▸ O2.out.below b2)
      have G2 := Lib.hid (((G1.out.alloc (.cells #[.int .i64 1, .int .i64 0, .int .i64 0, .int .i64 0, .int .i64 1] 83)).alloc (.cells #[.int .i64 1, .int .i64 0, .int .i64 0, .int .i64 0, .int .i64 1] 83)).below b2)
      have B2 := B1.out.alloc B1.out.size (.cells #[.int .i64 1, .int .i64 0, .int .i64 0, .int .i64 0, .int .i64 1] 83)
      have B3 := B2.alloc B2.size (.cells #[.int .i64 1, .int .i64 0, .int .i64 0, .int .i64 0, .int .i64 1] 83)
      have B4 := Lib.hid (B3.trans (b2.mono B3.size))
      have gl := G1.out.lt
      clear B2 B3 b2 hs12 O1 O2 G1
      obtain ⟨p0, p1, p2, p3, _⟩ := G2.out.four
      have a0 := Q1.out.cell 0
      have a1 := Q1.out.cell 1
      have a2 := Q1.out.cell 2
      have a3 := Q1.out.cell 3
      have a4 := Q1.out.cell 4
      have d0 := Q2.out.cell 0
      have d1 := Q2.out.cell 1
      have d2 := Q2.out.cell 2
      have d3 := Q2.out.cell 3
      have d4 := Q2.out.cell 4
      have f0 := Q2.out.free 0
      have f1 := Q2.out.free 1
      have f2 := Q2.out.free 2
      have f3 := Q2.out.free 3
      have f4 := Q2.out.free 4
      simp only [List.getElem?_toArray, List.getElem?_cons_zero, List.getElem?_cons_succ] at a0 a1 a2 a3 a4 d0 d1 d2 d3 d4
      have gq : w.heap.size ≤ w1.heap.size + 1 := by omega
      go_wp2_with fail
      rw [L2.out]
      go_ret
      rw [E1.out]
      refine ⟨_, _, rfl, ?_, ?_⟩
      · exact ownsRow_lit' _ #[.int .i64 (flipN i p : Nat), .int .i64 1, .int .i64 0, .int .i64 0, .int .i64 0, .int .i64 1, .int .i64 i, .int .i64 (-1), .int .i64 0, .int .i64 0, .int .i64 0, .int .i64 1] 2 (by simpa [World.setCell] using B4.out.size) (by simp [World.setCell]) (by simp [maxLen]) rfl rfl
      · have B5 := ((((B4.out.setCell (p := ⟨w1.heap.size + 1, 0, none⟩) gq (.int .i64 (-1))).setCell (p := ⟨w1.heap.size + 1, 1, none⟩) gq (.int .i64 0)).setCell (p := ⟨w1.heap.size + 1, 2, none⟩) gq (.int .i64 0)).setCell (p := ⟨w1.heap.size + 1, 3, none⟩) gq (.int .i64 0)).setCell (p := ⟨w1.heap.size + 1, 4, none⟩) gq (.int .i64 1)
        exact B5.alloc (by simpa [World.setCell] using B4.out.size) _
  · have e1 : goes ⟨5, p, q, r⟩ i = phG i x 2 := by simp [goes, HX.out]
    have E1 := Lib.hid e1
    clear e1
    go_wp2_with fail
    refine (s_l10Phase i 2 x _ (by omega)).mono ?_
    rintro e w1 ⟨A, c', rfl, o1, b1⟩
    go_wp2_with fail
    go_ret
    rw [E1.out]
    exact ⟨A, c', rfl, ownsRow_base o1 (by simp), hB.out.trans (b1.mono hB.out.size)⟩
  · have e1 : goes ⟨6, p, q, r⟩ i = phG i x 6 := by simp [goes, HX.out]
    have E1 := Lib.hid e1
    clear e1
    go_wp2_with fail
    refine (s_l10Phase i 6 x _ (by omega)).mono ?_
    rintro e w1 ⟨A, c', rfl, o1, b1⟩
    go_wp2_with fail
    go_ret
    rw [E1.out]
    exact ⟨A, c', rfl, ownsRow_base o1 (by simp), hB.out.trans (b1.mono hB.out.size)⟩
  · have e1 : goes ⟨7, p, q, r⟩ i = phG i x 1 := by simp [goes, HX.out]
    have E1 := Lib.hid e1
    clear e1
    go_wp2_with fail
    refine (s_l10Phase i 1 x _ (by omega)).mono ?_
    rintro e w1 ⟨A, c', rfl, o1, b1⟩
    go_wp2_with fail
    go_ret
    rw [E1.out]
    exact ⟨A, c', rfl, ownsRow_base o1 (by simp), hB.out.trans (b1.mono hB.out.size)⟩
  · have e1 : goes ⟨8, p, q, r⟩ i = phG i x 7 := by simp [goes, HX.out]
    have E1 := Lib.hid e1
    clear e1
    go_wp2_with fail
    refine (s_l10Phase i 7 x _ (by omega)).mono ?_
    rintro e w1 ⟨A, c', rfl, o1, b1⟩
    go_wp2_with fail
    go_ret
    rw [E1.out]
    exact ⟨A, c', rfl, ownsRow_base o1 (by simp), hB.out.trans (b1.mono hB.out.size)⟩
  · have e1 : goes ⟨9, p, q, r⟩ i = flG i q x := by simp [goes, HX.out]
    have E1 := Lib.hid e1
    clear e1
    go_wp2_with fail
    refine (s_l10Flip i q x _ hi hq).mono ?_
    rintro e w1 ⟨A, c', rfl, o1, b1⟩
    go_wp2_with fail
    go_ret
    rw [E1.out]
    exact ⟨A, c', rfl, ownsRow_base o1 (by simp), hB.out.trans (b1.mono hB.out.size)⟩
  · have e1 : goes ⟨10, p, q, r⟩ i = phG i (x && y) 4 := by simp [goes, HX.out, HY.out]
    have E1 := Lib.hid e1
    clear e1
    cases x
    · go_wp2_with fail
      refine (s_l10Phase i 4 false _ (by omega)).mono ?_
      rintro e w1 ⟨A, c', rfl, o1, b1⟩
      go_wp2_with fail
      go_ret
      rw [E1.out]
      exact ⟨A, c', rfl, ownsRow_base o1 (by simp), hB.out.trans (b1.mono hB.out.size)⟩
    · go_wp2_with fail
      refine (s_l10Phase i 4 y _ (by omega)).mono ?_
      rintro e w1 ⟨A, c', rfl, o1, b1⟩
      go_wp2_with fail
      go_ret
      rw [E1.out]
      exact ⟨A, c', rfl, ownsRow_base o1 (by simp), hB.out.trans (b1.mono hB.out.size)⟩
  · have e1 : goes ⟨11, p, q, r⟩ i = [(if x != y then flipN (flipN i p) q else i, phD 0)] := by simp [goes, HX.out, HY.out]
    have E1 := Lib.hid e1
    clear e1
    obtain ⟨z, hz⟩ : ∃ z, (x != y) = z := ⟨_, rfl⟩
    rw [hz] at E1
    have hz2 : (x = y) = (z = false) := by subst hz; cases x <;> cases y <;> decide
    cases x <;> cases y
    · obtain rfl : z = false := hz.symm
      clear hz hz2
      go_wp2_with fail
      refine (s_Phase 0 _ (by omega)).mono ?_
      rintro e w1 ⟨rfl, b1⟩
      go_wp2_with fail
      go_ret
      rw [E1.out]
      exact ⟨_, _, rfl, World.ownsRow_lit w1 #[.int .i64 (i : Nat), .int .i64 (phD 0).n.a, .int .i64 (phD 0).n.b, .int .i64 (phD 0).n.c, .int .i64 (phD 0).n.d, .int .i64 (phD 0).e] 1 (below_alloc b1).size (by simp [maxLen]) rfl, (below_alloc b1).alloc (below_alloc b1).size _⟩
    · obtain rfl : z = true := hz.symm
      clear hz hz2
      go_wp2_with fail
      rw [xor_flip hi hp, xor_flip (flip_lt hi hp) hq]
      refine (s_Phase 0 _ (by omega)).mono ?_
      rintro e w1 ⟨rfl, b1⟩
      go_wp2_with fail
      go_ret
      rw [E1.out]
      exact ⟨_, _, rfl, World.ownsRow_lit w1 #[.int .i64 (flipN (flipN i p) q : Nat), .int .i64 (phD 0).n.a, .int .i64 (phD 0).n.b, .int .i64 (phD 0).n.c, .int .i64 (phD 0).n.d, .int .i64 (phD 0).e] 1 (below_alloc b1).size (by simp [maxLen]) rfl, (below_alloc b1).alloc (below_alloc b1).size _⟩
    · obtain rfl : z = true := hz.symm
      clear hz hz2
      go_wp2_with fail
      rw [xor_flip hi hp, xor_flip (flip_lt hi hp) hq]
      refine (s_Phase 0 _ (by omega)).mono ?_
      rintro e w1 ⟨rfl, b1⟩
      go_wp2_with fail
      go_ret
      rw [E1.out]
      exact ⟨_, _, rfl, World.ownsRow_lit w1 #[.int .i64 (flipN (flipN i p) q : Nat), .int .i64 (phD 0).n.a, .int .i64 (phD 0).n.b, .int .i64 (phD 0).n.c, .int .i64 (phD 0).n.d, .int .i64 (phD 0).e] 1 (below_alloc b1).size (by simp [maxLen]) rfl, (below_alloc b1).alloc (below_alloc b1).size _⟩
    · obtain rfl : z = false := hz.symm
      clear hz hz2
      go_wp2_with fail
      refine (s_Phase 0 _ (by omega)).mono ?_
      rintro e w1 ⟨rfl, b1⟩
      go_wp2_with fail
      go_ret
      rw [E1.out]
      exact ⟨_, _, rfl, World.ownsRow_lit w1 #[.int .i64 (i : Nat), .int .i64 (phD 0).n.a, .int .i64 (phD 0).n.b, .int .i64 (phD 0).n.c, .int .i64 (phD 0).n.d, .int .i64 (phD 0).e] 1 (below_alloc b1).size (by simp [maxLen]) rfl, (below_alloc b1).alloc (below_alloc b1).size _⟩
  · have e1 : goes ⟨12, p, q, r⟩ i = flG i r (x && y) := by simp [goes, HX.out, HY.out]
    have E1 := Lib.hid e1
    clear e1
    cases x
    · go_wp2_with fail
      refine (s_l10Flip i r false _ hi hr).mono ?_
      rintro e w1 ⟨A, c', rfl, o1, b1⟩
      go_wp2_with fail
      go_ret
      rw [E1.out]
      exact ⟨A, c', rfl, ownsRow_base o1 (by simp), hB.out.trans (b1.mono hB.out.size)⟩
    · go_wp2_with fail
      refine (s_l10Flip i r y _ hi hr).mono ?_
      rintro e w1 ⟨A, c', rfl, o1, b1⟩
      go_wp2_with fail
      go_ret
      rw [E1.out]
      exact ⟨A, c', rfl, ownsRow_base o1 (by simp), hB.out.trans (b1.mono hB.out.size)⟩
end Go.Proofs.Ytibhikngiceeeaa
