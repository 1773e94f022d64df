/- The law FnRoute returns true for every code. No condition. -/
import Derived.Test.YtibhikngiceeeaaRows
import Derived.Test.YtibhikngiceeeaaRouteLBx
import Derived.Test.YtibhikngiceeeaaRouteCBx
import Derived.Test.YtibhikngiceeeaaIntS
import Derived.Test.YtibhikngiceeeaaDrawNBx
import Derived.ChangeOld
namespace Go.Proofs.Ytibhikngiceeeaa.fnRoute
open Go.ChangeShapes Go.WideShapes Go.ChangeAt Go.RowKit
set_option linter.unusedVariables false

/-- The law's graph in its box, the gates drawn, the layout. -/
def LBx (w : World) (g : Nat) (N : Int) (B : Option Addr) (m c : Nat) (ps : List (Int × Int)) (G : Option Addr) (q : Nat) (gs : List Gt) (Z : Option Addr) (nz : Nat) (ys : List Int) (wx : World) : Prop :=
  Bx wx g 61 #[.int .i64 N, .slice B m c] ∧ RdP wx B m ps ∧ RdG wx G q gs ∧ RdI wx Z nz ys ∧ Below w.heap.size w wx
theorem LBx.below {w wx w' : World} {g : Nat} {N : Int} {B : Option Addr} {m c : Nat} {ps : List (Int × Int)} {G : Option Addr} {q : Nat} {gs : List Gt} {Z : Option Addr} {nz : Nat} {ys : List Int} (h : LBx w g N B m c ps G q gs Z nz ys wx) (hb : Below wx.heap.size wx w') : LBx w g N B m c ps G q gs Z nz ys w' := ⟨h.1.below hb, h.2.1.below hb, h.2.2.1.below hb, h.2.2.2.1.below hb, below_trans h.2.2.2.2 hb⟩
theorem rtsL_no' {ps : List (Int × Int)} {N : Int} : ∀ (gs : List Gt) (z : List Int) (acc : List Gt), ¬ (rtsL ps N gs z acc).2.2 = true → (rtsL ps N gs z acc).1 = []
  | [], z, acc, h => absurd rfl h
  | g :: r, z, acc, h => by
    rw [rtsL] at h ⊢
    by_cases hm : mayR ps N z g = true
    · rw [if_pos hm] at h ⊢
      exact rtsL_no' r _ _ h
    · rw [if_neg hm]
theorem rts_no {ps : List (Int × Int)} {N : Int} {zs : List Int} {gs : List Gt} (h : ¬ (routeGs ps N zs gs).2.2 = true) : (routeGs ps N zs gs).1 = [] := by
  unfold routeGs at h ⊢
  by_cases hl : isLay ps N zs = true
  · rw [if_pos hl] at h ⊢
    exact rtsL_no' gs zs [] h
  · rw [if_neg hl]
theorem rts_bd {ps : List (Int × Int)} {N : Int} {zs : List Int} {gs : List Gt} : (routeGs ps N zs gs).1.length ≤ 3 * gs.length := by
  by_cases h : (routeGs ps N zs gs).2.2 = true
  · obtain ⟨h1, h2, _, _⟩ := routeGs_cnt h
    omega
  · rw [rts_no h]
    simp
theorem rtsL_row {ps : List (Int × Int)} {N : Int} : ∀ (gs : List Gt) (z : List Int) (acc : List Gt), isLay ps N z = true → (rtsL ps N gs z acc).2.1.length ≤ 4
  | [], z, acc, h => by
    have := isLay_len h
    show z.length ≤ 4
    omega
  | g :: r, z, acc, h => by
    rw [rtsL]
    by_cases hm : mayR ps N z g = true
    · rw [if_pos hm]
      exact rtsL_row r _ _ (routeG_lay h)
    · rw [if_neg hm]
      simp
theorem rts_row {ps : List (Int × Int)} {N : Int} {zs : List Int} {gs : List Gt} : (routeGs ps N zs gs).2.1.length ≤ 4 := by
  unfold routeGs
  by_cases hl : isLay ps N zs = true
  · rw [if_pos hl]
    exact rtsL_row gs zs [] hl
  · rw [if_neg hl]
    simp
theorem hcs_hN : ∀ gs : List Gt, hcs gs = hN gs
  | [] => rfl
  | g :: r => by
    show hc g + hcs r = (if g.k = 4 then 1 else 0) + hN r
    rw [hcs_hN r]
    rfl
theorem flipL_at' {l : List (List Dw)} {x : List Dw} (h : x ∈ flipL l) : x.length = l.length := by
  obtain ⟨k, hk⟩ := List.getElem?_of_mem h
  obtain ⟨_, h2⟩ := flipL_at hk
  rw [h2, List.length_map]
/-- The columns that a row of gates makes. -/
def Uc (gs : List Gt) (n h : Nat) (i : Nat) : List Dw := NV (actG gs (eN (2 ^ n) i)) h
theorem uc_law {gs : List Gt} {n h : Nat} (hn : 1 ≤ n ∧ n ≤ 4) (hg : ∀ g ∈ gs, okN n g = true) (hh : hcs gs = h) (h30 : h ≤ 30) : (∀ i, i < 2 ^ n → appGs gs (basis n i) = some (Uc gs n h i) ∧ (Uc gs n h i).length = 2 ^ n) ∧ ∀ i, i < 2 ^ n → ∀ u ∈ Uc gs n h i, okD u = true := by
  subst hh
  refine ⟨fun i _ => ?_, fun i _ u hu => ?_⟩
  · obtain ⟨a1, _, a3, _⟩ := appGs_nfN hn hg h30 i
    exact ⟨a1, by unfold Uc; rw [NV_len, a3]⟩
  · obtain ⟨_, a2, _, _⟩ := appGs_nfN hn hg h30 i
    simp only [okS, Bool.and_eq_true, List.all_eq_true] at a2
    exact a2.1 u hu
/-- What the law's last part asks of the plain route. -/
theorem route_all {ps : List (Int × Int)} {N : Int} {ys r2 : List Int} {gs r1 : List Gt} (h : routeGs ps N ys gs = (r1, r2, true)) (hh : hN gs ≤ 13) : ∃ (n H : Nat), N = n ∧ (1 ≤ n ∧ n ≤ 4) ∧ (isPerm ys = true ∧ ys.length = n) ∧ (isPerm r2 = true ∧ r2.length = n) ∧ (∀ g ∈ gs, okN n g = true) ∧ (∀ g ∈ r1, okN n g = true) ∧ resp ps N r1 = true ∧
    ((∀ i, i < 2 ^ n → appGs r1 (basis n i) = some (Uc r1 n H i) ∧ (Uc r1 n H i).length = 2 ^ n) ∧ ∀ i, i < 2 ^ n → ∀ u ∈ Uc r1 n H i, okD u = true) ∧ ((∀ i, i < 2 ^ n → appGs gs (basis n i) = some (Uc gs n H i) ∧ (Uc gs n H i).length = 2 ^ n) ∧ ∀ i, i < 2 ^ n → ∀ u ∈ Uc gs n H i, okD u = true) ∧
    ∀ j, j < 2 ^ n → ((List.range (2 ^ n)).map fun k => (Uc r1 n H (idxP ys j)).getD k Dw.zero) = (List.range (2 ^ n)).map fun k => (Uc gs n H j).getD (preF (idxP r2) (2 ^ n) k) Dw.zero := by
  obtain ⟨n, rfl, hn, hy, hr, hg, hk⟩ := route_law h
  have h13 : hcs gs ≤ 13 := by rw [hcs_hN]; exact hh
  exact ⟨n, hcs gs, rfl, hn, hy, hr, hg, hk.1, hk.2.1, uc_law hn hk.1 hk.2.2.1 (by omega), uc_law hn hg rfl (by omega), fun j hj => route_mat hy hr hk hg hj⟩
theorem rd_mat {w : World} {base n c : Nat} {A : Option Addr} {U : Nat → List Dw} (h : OwnSS cellsD w base 79 83 5 (.slice A n c) (flipL (colsU U n))) : RdSS cellsD w 5 A n (flipL (colsU U n)) := h.rd (by rw [flipL_len, colsU_len])

set_option maxRecDepth 100000 in
set_option maxHeartbeats 12800000 in
theorem walk (A : Option Addr) (n cap : Nat) (zs : List Int) (w : World) (h : zs.length = n ∧ Rd w 1 A n (zs.map (Value.int .u8))) (hnc : n ≤ cap) (hc : cap ≤ maxLen) (ok : ∀ z ∈ zs, 0 ≤ z ∧ z ≤ 255) :
    Calls Try.prog 7 #[.slice A n cap] w fun e w' => e = .returned (.bool true) ∧ Below w.heap.size w w' := by
  unfold maxLen at hc
  have H : Hid (RdB w A n zs) := h
  have OK := Lib.hid ok
  clear h ok
  by_cases hn : 1048576 < n
  · go_enter Try.func7, Try.ntmps7
    go_wp2_with fail
    refine (l_big _ _ _ _ (by omega)).mono ?_
    rintro e w1 ⟨rfl, rfl⟩
    rw [decide_eq_true hn]
    go_wp2_with fail
    go_ret
    exact ⟨rfl, Below.refl _ _⟩
  · go_enter Try.func7, Try.ntmps7
    go_wp2_with fail
    refine (l_big _ _ _ _ (by omega)).mono ?_
    rintro e w1 ⟨rfl, rfl⟩
    rw [decide_eq_false hn]
    go_wp2_with fail
    refine (s_DrawRG _ _ _ _ _ H.out OK.out (by omega)).mono ?_
    rintro e w1 ⟨G, q, d, gs, N, B, m, c, ps, Z, nz, cz, ys, rfl, hl, ⟨hq, hh⟩, hl2, hm, hlz, hnz, og, oe, oz, b1⟩
    have hzc := ownsRow_cap oz
    have S1 := Lib.hid (show LBx w w1.heap.size N B m c ps G q gs Z nz ys (w1.alloc (.cells #[.int .i64 N, .slice B m c] 61)) from ⟨Bx.new w1 _ _, (RdP.own oe).alloc _, (RdG.own og).alloc _, (RdI.own oz).alloc _, b1.alloc b1.size _⟩)
    have HL := Lib.hid hl
    have HH := Lib.hid hh
    have HLZ := Lib.hid hlz
    clear og oe oz b1 hl2 hh hlz
    obtain ⟨q0, q1, _⟩ := S1.out.1.two
    obtain ⟨⟨r1, r2, r3⟩, hr⟩ : ∃ r, routeGs ps N ys gs = r := ⟨_, rfl⟩
    obtain ⟨L, hL⟩ : ∃ L, r1.length = L := ⟨_, rfl⟩
    obtain ⟨L2, hL2⟩ : ∃ L, r2.length = L := ⟨_, rfl⟩
    have hbd : L ≤ 3 * q := by
      have := rts_bd (ps := ps) (N := N) (zs := ys) (gs := gs)
      rw [hr] at this
      simp only at this
      omega
    have hbd2 : L2 ≤ 4 := by
      have := rts_row (ps := ps) (N := N) (zs := ys) (gs := gs)
      rw [hr] at this
      simp only at this
      omega
    have hno : r3 = false → L = 0 := by
      intro h3
      have := rts_no (ps := ps) (N := N) (zs := ys) (gs := gs) (by rw [hr, h3]; simp)
      rw [hr] at this
      simp only at this
      rw [← hL, this]
      rfl
    have HR := Lib.hid hr
    have HNO := Lib.hid hno
    have HLL := Lib.hid hL
    have HL2 := Lib.hid hL2
    clear hl hr hno hL hL2
    go_wp2_with fail
    refine (i_RouteGates _ _ _ gs _ _ _ _ ps _ _ _ ys _ S1.out.2.2.1 (by omega) S1.out.2.1 (by omega) S1.out.2.2.2.1 (by omega)).mono ?_
    rintro e w2 ⟨A2, c2, B2, d2, rfl, o2, oi2, b2⟩
    rw [HR.out] at o2 oi2 ⊢
    simp only at o2 oi2 ⊢
    rw [HLL.out] at o2 ⊢
    rw [HL2.out] at oi2 ⊢
    have hcap2 := ownsRow_cap oi2
    have R2 := Lib.hid (RdG.own o2)
    have Q2 := Lib.hid (RdI.own oi2)
    have S2 := Lib.hid (S1.out.below b2)
    clear o2 oi2 b2 S1 q0 q1
    obtain ⟨q0, q1, _⟩ := S2.out.1.two
    go_wp2_with fail
    refine (s_RouteGates _ _ _ gs _ _ _ _ ps _ _ _ ys _ S2.out.2.2.1 (by omega) S2.out.2.1 (by omega) S2.out.2.2.2.1 hzc (by omega)).mono ?_
    rintro e w3 ⟨A3, c3, B3, d3, rfl, o3, oi3, b3⟩
    rw [HR.out] at o3 oi3 ⊢
    simp only at o3 oi3 ⊢
    rw [HLL.out] at o3 ⊢
    rw [HL2.out] at oi3 ⊢
    have P3 := Lib.hid (RdG.own o3)
    have J3 := Lib.hid (RdI.own oi3)
    have R3 := Lib.hid (R2.out.below b3)
    have Q3 := Lib.hid (Q2.out.below b3)
    have S3 := Lib.hid (S2.out.below b3)
    clear o3 oi3 b3 S2 R2 Q2 q0 q1
    have hrr : (r3 != r3) = false := by cases r3 <;> rfl
    go_wp2_with fail
    refine (l_sameGates_same _ _ _ _ _ r1 _ R3.out P3.out (by omega)).mono ?_
    rintro e w4 ⟨rfl, b4⟩
    have J4 := Lib.hid (J3.out.below b4)
    have R4 := Lib.hid (R3.out.below b4)
    have Q4 := Lib.hid (Q3.out.below b4)
    have S4 := Lib.hid (S3.out.below b4)
    clear b4 J3 R3 Q3 S3 P3
    go_wp2_with fail
    refine (l_sameInts _ _ _ _ _ _ r2 r2 _ Q4.out J4.out (by omega) (by omega)).mono ?_
    rintro e w5 ⟨rfl, b5⟩
    rw [decide_eq_true rfl]
    have R5 := Lib.hid (R4.out.below b5)
    have Q5 := Lib.hid (Q4.out.below b5)
    have S5 := Lib.hid (S4.out.below b5)
    clear b5 J4 R4 Q4 S4
    cases r3
    · have hL0 := HNO.out rfl
      subst hL0
      go_wp2_with fail
      go_ret
      exact ⟨rfl, S5.out.2.2.2.2⟩
    · obtain ⟨k, hcn, rfl, hk, ⟨y1, y2⟩, ⟨z1, z2⟩, g1, g2, g3, ⟨u1, u1'⟩, ⟨u2, u2'⟩, gm⟩ := route_all HR.out HH.out
      obtain rfl : nz = k := by rw [← HLZ.out, y2]
      obtain rfl : L2 = nz := by rw [← HL2.out, z2]
      have Y1 := Lib.hid y1
      have Z1 := Lib.hid z1
      have G1 := Lib.hid g1
      have G2 := Lib.hid g2
      have G3 := Lib.hid g3
      have U1 := Lib.hid u1
      have U1' := Lib.hid u1'
      have U2 := Lib.hid u2
      have U2' := Lib.hid u2'
      have GM := Lib.hid gm
      have BY := Lib.hid (perm_bij y1 y2)
      have BZ := Lib.hid (perm_bij z1 z2)
      have VA := Lib.hid (flipL_ok u1')
      have VB := Lib.hid (flipL_ok u2')
      have VP := Lib.hid (flipL_ok (U := fun i => basis L2 (idxP ys i)) (N := 2 ^ L2) (fun i _ => uD_ok))
      have VQ := Lib.hid (flipL_ok (U := fun i => basis L2 (idxP r2 i)) (N := 2 ^ L2) (fun i _ => uD_ok))
      clear y1 y2 z1 z2 g1 g2 g3 u1 u1' u2 u2' gm HR HH HNO HLZ
      obtain ⟨q0, q1, _⟩ := S5.out.1.two
      by_cases hA60 : L ≤ 60
      · by_cases hB60 : q ≤ 60
        · skip
          go_wp2_with fail
          refine (s_CirMat L2 (Uc r1 L2 hcn) _ _ _ r1 _ hk.1 hk.2 R5.out hA60 G2.out U1.out).mono ?_
          rintro e w6 ⟨A6, c6, rfl, o6, b6⟩
          have M6 := Lib.hid (rd_mat o6)
          clear o6
          have R6 := Lib.hid (R5.out.below b6)
          have Q6 := Lib.hid (Q5.out.below b6)
          have S6 := Lib.hid (S5.out.below b6)
          clear b6 R5 Q5 S5
          clear q0 q1
          obtain ⟨q0, q1, _⟩ := S6.out.1.two
          go_wp2_with fail
          refine (s_CirMat L2 (Uc gs L2 hcn) _ _ _ gs _ hk.1 hk.2 S6.out.2.2.1 hB60 G1.out U2.out).mono ?_
          rintro e w7 ⟨A7, c7, rfl, o7, b7⟩
          have K7 := Lib.hid (rd_mat o7)
          clear o7
          have R7 := Lib.hid (R6.out.below b7)
          have Q7 := Lib.hid (Q6.out.below b7)
          have S7 := Lib.hid (S6.out.below b7)
          have M7 := Lib.hid (M6.out.below b7)
          clear b7 R6 Q6 S6 M6
          clear q0 q1
          obtain ⟨q0, q1, _⟩ := S7.out.1.two
          go_wp2_with fail
          refine (i_RespectsGraph _ _ _ r1 _ _ _ _ ps _ R7.out (by omega) S7.out.2.1 (by omega)).mono ?_
          rintro e w8 ⟨rfl, b8⟩
          rw [G3.out]
          have R8 := Lib.hid (R7.out.below b8)
          have Q8 := Lib.hid (Q7.out.below b8)
          have S8 := Lib.hid (S7.out.below b8)
          have M8 := Lib.hid (M7.out.below b8)
          have K8 := Lib.hid (K7.out.below b8)
          clear b8 R7 Q7 S7 M7 K7
          clear q0 q1
          go_wp2_with fail
          refine (i_IsPermutation _ _ _ r2 _ Q8.out (by omega)).mono ?_
          rintro e w9 ⟨rfl, b9⟩
          rw [Z1.out]
          have R9 := Lib.hid (R8.out.below b9)
          have Q9 := Lib.hid (Q8.out.below b9)
          have S9 := Lib.hid (S8.out.below b9)
          have M9 := Lib.hid (M8.out.below b9)
          have K9 := Lib.hid (K8.out.below b9)
          clear b9 R8 Q8 S8 M8 K8
          go_wp2_with fail
          refine (s_PermMat L2 _ _ ys _ S9.out.2.2.2.1 Y1.out hzc).mono ?_
          rintro e w10 ⟨A10, c10, rfl, o10, b10⟩
          have P10 := Lib.hid (rd_mat o10)
          clear o10
          have R10 := Lib.hid (R9.out.below b10)
          have Q10 := Lib.hid (Q9.out.below b10)
          have S10 := Lib.hid (S9.out.below b10)
          have M10 := Lib.hid (M9.out.below b10)
          have K10 := Lib.hid (K9.out.below b10)
          clear b10 R9 Q9 S9 M9 K9
          go_wp2_with fail
          refine (s_MulM L2 (fun j k => (Uc r1 L2 hcn (idxP ys j)).getD k Dw.zero) _ (2 ^ L2) _ _ _ (flipL (colsU (Uc r1 L2 hcn) (2 ^ L2))) (flipL (colsU (fun i => basis L2 (idxP ys i)) (2 ^ L2))) _ M10.out P10.out hk.1 hk.2 rfl VA.out VP.out (fun j hj k x hx => mul_perm_r BY.out U1'.out j hj k x hx)).mono ?_
          rintro e w11 ⟨A11, c11, rfl, o11, b11⟩
          have X11 := Lib.hid (rd_mat o11)
          clear o11
          clear P10 M10
          have R11 := Lib.hid (R10.out.below b11)
          have Q11 := Lib.hid (Q10.out.below b11)
          have S11 := Lib.hid (S10.out.below b11)
          have K11 := Lib.hid (K10.out.below b11)
          clear b11 R10 Q10 S10 K10
          go_wp2_with fail
          refine (s_PermMat L2 _ _ r2 _ Q11.out Z1.out hcap2).mono ?_
          rintro e w12 ⟨A12, c12, rfl, o12, b12⟩
          have P12 := Lib.hid (rd_mat o12)
          clear o12
          have R12 := Lib.hid (R11.out.below b12)
          have Q12 := Lib.hid (Q11.out.below b12)
          have S12 := Lib.hid (S11.out.below b12)
          have K12 := Lib.hid (K11.out.below b12)
          have X12 := Lib.hid (X11.out.below b12)
          clear b12 R11 Q11 S11 K11 X11
          go_wp2_with fail
          refine (s_MulM L2 (fun j k => (Uc gs L2 hcn j).getD (preF (idxP r2) (2 ^ L2) k) Dw.zero) _ (2 ^ L2) _ _ _ (flipL (colsU (fun i => basis L2 (idxP r2 i)) (2 ^ L2))) (flipL (colsU (Uc gs L2 hcn) (2 ^ L2))) _ P12.out K12.out hk.1 hk.2 rfl VQ.out VB.out (fun j hj k x hx => mul_perm_l BZ.out (fun i hi => ⟨(U2.out i hi).2, U2'.out i hi⟩) j hj k x hx)).mono ?_
          rintro e w13 ⟨A13, c13, rfl, o13, b13⟩
          have Y13 := Lib.hid (rd_mat o13)
          clear o13
          have S13 := Lib.hid (S12.out.below b13)
          have X13 := Lib.hid (X12.out.below b13)
          clear b13
          have HEQ := Lib.hid (show flipL (colsU (fun j => (List.range (2 ^ L2)).map fun k => (Uc r1 L2 hcn (idxP ys j)).getD k Dw.zero) (2 ^ L2)) = flipL (colsU (fun j => (List.range (2 ^ L2)).map fun k => (Uc gs L2 hcn j).getD (preF (idxP r2) (2 ^ L2) k) Dw.zero) (2 ^ L2)) from by
            unfold colsU
            congr 1
            exact List.map_congr_left fun j hj => GM.out j (List.mem_range.1 hj))
          have VX := Lib.hid (show ∀ x ∈ flipL (colsU (fun j => (List.range (2 ^ L2)).map fun k => (Uc gs L2 hcn j).getD (preF (idxP r2) (2 ^ L2) k) Dw.zero) (2 ^ L2)), x.length = 2 ^ L2 from fun x hx => by
            have := flipL_at' hx
            rw [this, colsU_len])
          have X14 := Lib.hid (show RdSS cellsD w13 5 A11 (2 ^ L2) (flipL (colsU (fun j => (List.range (2 ^ L2)).map fun k => (Uc gs L2 hcn j).getD (preF (idxP r2) (2 ^ L2) k) Dw.zero) (2 ^ L2))) from HEQ.out ▸ X13.out)
          have h16 := (pow_16 hk.1 hk.2).1
          go_wp2_with fail
          refine (s_EqMat _ (2 ^ L2) _ _ _ _ _ _ X14.out Y13.out h16 VX.out VX.out).mono ?_
          rintro e w14 ⟨rfl, b14⟩
          go_wp2_with fail
          go_ret
          exact ⟨ret_bool (by simp), below_trans S13.out.2.2.2.2 b14⟩
        · skip
          go_wp2_with fail
          refine (s_CirMat L2 (Uc r1 L2 hcn) _ _ _ r1 _ hk.1 hk.2 R5.out hA60 G2.out U1.out).mono ?_
          rintro e w6 ⟨A6, c6, rfl, o6, b6⟩
          have M6 := Lib.hid (rd_mat o6)
          clear o6
          have R6 := Lib.hid (R5.out.below b6)
          have Q6 := Lib.hid (Q5.out.below b6)
          have S6 := Lib.hid (S5.out.below b6)
          clear b6 R5 Q5 S5
          clear q0 q1
          obtain ⟨q0, q1, _⟩ := S6.out.1.two
          go_wp2_with fail
          refine (s_CirMatNo L2 _ _ _ gs _ hk.1 hk.2 S6.out.2.2.1 (by omega) (by omega) G1.out).mono ?_
          rintro e w7 ⟨A7, c7, rfl, b7⟩
          have R7 := Lib.hid (R6.out.below b7)
          have Q7 := Lib.hid (Q6.out.below b7)
          have S7 := Lib.hid (S6.out.below b7)
          have M7 := Lib.hid (M6.out.below b7)
          clear b7 R6 Q6 S6 M6
          clear q0 q1
          obtain ⟨q0, q1, _⟩ := S7.out.1.two
          go_wp2_with fail
          refine (i_RespectsGraph _ _ _ r1 _ _ _ _ ps _ R7.out (by omega) S7.out.2.1 (by omega)).mono ?_
          rintro e w8 ⟨rfl, b8⟩
          rw [G3.out]
          have R8 := Lib.hid (R7.out.below b8)
          have Q8 := Lib.hid (Q7.out.below b8)
          have S8 := Lib.hid (S7.out.below b8)
          have M8 := Lib.hid (M7.out.below b8)
          clear b8 R7 Q7 S7 M7
          clear q0 q1
          go_wp2_with fail
          refine (i_IsPermutation _ _ _ r2 _ Q8.out (by omega)).mono ?_
          rintro e w9 ⟨rfl, b9⟩
          rw [Z1.out]
          have R9 := Lib.hid (R8.out.below b9)
          have Q9 := Lib.hid (Q8.out.below b9)
          have S9 := Lib.hid (S8.out.below b9)
          have M9 := Lib.hid (M8.out.below b9)
          clear b9 R8 Q8 S8 M8
          go_wp2_with fail
          refine (s_PermMat L2 _ _ ys _ S9.out.2.2.2.1 Y1.out hzc).mono ?_
          rintro e w10 ⟨A10, c10, rfl, o10, b10⟩
          have P10 := Lib.hid (rd_mat o10)
          clear o10
          have R10 := Lib.hid (R9.out.below b10)
          have Q10 := Lib.hid (Q9.out.below b10)
          have S10 := Lib.hid (S9.out.below b10)
          have M10 := Lib.hid (M9.out.below b10)
          clear b10 R9 Q9 S9 M9
          go_wp2_with fail
          refine (s_MulM L2 (fun j k => (Uc r1 L2 hcn (idxP ys j)).getD k Dw.zero) _ (2 ^ L2) _ _ _ (flipL (colsU (Uc r1 L2 hcn) (2 ^ L2))) (flipL (colsU (fun i => basis L2 (idxP ys i)) (2 ^ L2))) _ M10.out P10.out hk.1 hk.2 rfl VA.out VP.out (fun j hj k x hx => mul_perm_r BY.out U1'.out j hj k x hx)).mono ?_
          rintro e w11 ⟨A11, c11, rfl, o11, b11⟩
          have X11 := Lib.hid (rd_mat o11)
          clear o11
          clear P10 M10
          have R11 := Lib.hid (R10.out.below b11)
          have Q11 := Lib.hid (Q10.out.below b11)
          have S11 := Lib.hid (S10.out.below b11)
          clear b11 R10 Q10 S10
          go_wp2_with fail
          refine (s_PermMat L2 _ _ r2 _ Q11.out Z1.out hcap2).mono ?_
          rintro e w12 ⟨A12, c12, rfl, o12, b12⟩
          have P12 := Lib.hid (rd_mat o12)
          clear o12
          have R12 := Lib.hid (R11.out.below b12)
          have Q12 := Lib.hid (Q11.out.below b12)
          have S12 := Lib.hid (S11.out.below b12)
          have X12 := Lib.hid (X11.out.below b12)
          clear b12 R11 Q11 S11 X11
          go_wp2_with fail
          refine (s_MulNo2 L2 _ (2 ^ L2) _ _ _ (flipL (colsU (fun i => basis L2 (idxP r2 i)) (2 ^ L2))) _ P12.out hk.1 hk.2 rfl VQ.out).mono ?_
          rintro e w13 ⟨A13, c13, rfl, b13⟩
          have S13 := Lib.hid (S12.out.below b13)
          go_wp2_with fail
          go_ret
          exact ⟨rfl, S13.out.2.2.2.2⟩
      · by_cases hB60 : q ≤ 60
        · skip
          go_wp2_with fail
          refine (s_CirMatNo L2 _ _ _ r1 _ hk.1 hk.2 R5.out (by omega) (by omega) G2.out).mono ?_
          rintro e w6 ⟨A6, c6, rfl, b6⟩
          have R6 := Lib.hid (R5.out.below b6)
          have Q6 := Lib.hid (Q5.out.below b6)
          have S6 := Lib.hid (S5.out.below b6)
          clear b6 R5 Q5 S5
          clear q0 q1
          obtain ⟨q0, q1, _⟩ := S6.out.1.two
          go_wp2_with fail
          refine (s_CirMat L2 (Uc gs L2 hcn) _ _ _ gs _ hk.1 hk.2 S6.out.2.2.1 hB60 G1.out U2.out).mono ?_
          rintro e w7 ⟨A7, c7, rfl, o7, b7⟩
          have K7 := Lib.hid (rd_mat o7)
          clear o7
          have R7 := Lib.hid (R6.out.below b7)
          have Q7 := Lib.hid (Q6.out.below b7)
          have S7 := Lib.hid (S6.out.below b7)
          clear b7 R6 Q6 S6
          clear q0 q1
          obtain ⟨q0, q1, _⟩ := S7.out.1.two
          go_wp2_with fail
          refine (i_RespectsGraph _ _ _ r1 _ _ _ _ ps _ R7.out (by omega) S7.out.2.1 (by omega)).mono ?_
          rintro e w8 ⟨rfl, b8⟩
          rw [G3.out]
          have R8 := Lib.hid (R7.out.below b8)
          have Q8 := Lib.hid (Q7.out.below b8)
          have S8 := Lib.hid (S7.out.below b8)
          have K8 := Lib.hid (K7.out.below b8)
          clear b8 R7 Q7 S7 K7
          clear q0 q1
          go_wp2_with fail
          refine (i_IsPermutation _ _ _ r2 _ Q8.out (by omega)).mono ?_
          rintro e w9 ⟨rfl, b9⟩
          rw [Z1.out]
          have R9 := Lib.hid (R8.out.below b9)
          have Q9 := Lib.hid (Q8.out.below b9)
          have S9 := Lib.hid (S8.out.below b9)
          have K9 := Lib.hid (K8.out.below b9)
          clear b9 R8 Q8 S8 K8
          go_wp2_with fail
          refine (s_PermMat L2 _ _ ys _ S9.out.2.2.2.1 Y1.out hzc).mono ?_
          rintro e w10 ⟨A10, c10, rfl, o10, b10⟩
          have P10 := Lib.hid (rd_mat o10)
          clear o10
          have R10 := Lib.hid (R9.out.below b10)
          have Q10 := Lib.hid (Q9.out.below b10)
          have S10 := Lib.hid (S9.out.below b10)
          have K10 := Lib.hid (K9.out.below b10)
          clear b10 R9 Q9 S9 K9
          go_wp2_with fail
          refine (s_MulNo1 _ _ _ _ _ _).mono ?_
          rintro e w11 ⟨A11, c11, rfl, b11⟩
          clear P10
          have R11 := Lib.hid (R10.out.below b11)
          have Q11 := Lib.hid (Q10.out.below b11)
          have S11 := Lib.hid (S10.out.below b11)
          have K11 := Lib.hid (K10.out.below b11)
          clear b11 R10 Q10 S10 K10
          go_wp2_with fail
          refine (s_PermMat L2 _ _ r2 _ Q11.out Z1.out hcap2).mono ?_
          rintro e w12 ⟨A12, c12, rfl, o12, b12⟩
          have P12 := Lib.hid (rd_mat o12)
          clear o12
          have R12 := Lib.hid (R11.out.below b12)
          have Q12 := Lib.hid (Q11.out.below b12)
          have S12 := Lib.hid (S11.out.below b12)
          have K12 := Lib.hid (K11.out.below b12)
          clear b12 R11 Q11 S11 K11
          go_wp2_with fail
          refine (s_MulM L2 (fun j k => (Uc gs L2 hcn j).getD (preF (idxP r2) (2 ^ L2) k) Dw.zero) _ (2 ^ L2) _ _ _ (flipL (colsU (fun i => basis L2 (idxP r2 i)) (2 ^ L2))) (flipL (colsU (Uc gs L2 hcn) (2 ^ L2))) _ P12.out K12.out hk.1 hk.2 rfl VQ.out VB.out (fun j hj k x hx => mul_perm_l BZ.out (fun i hi => ⟨(U2.out i hi).2, U2'.out i hi⟩) j hj k x hx)).mono ?_
          rintro e w13 ⟨A13, c13, rfl, o13, b13⟩
          have Y13 := Lib.hid (rd_mat o13)
          clear o13
          have S13 := Lib.hid (S12.out.below b13)
          go_wp2_with fail
          go_ret
          exact ⟨rfl, S13.out.2.2.2.2⟩
        · skip
          go_wp2_with fail
          refine (s_CirMatNo L2 _ _ _ r1 _ hk.1 hk.2 R5.out (by omega) (by omega) G2.out).mono ?_
          rintro e w6 ⟨A6, c6, rfl, b6⟩
          have R6 := Lib.hid (R5.out.below b6)
          have Q6 := Lib.hid (Q5.out.below b6)
          have S6 := Lib.hid (S5.out.below b6)
          clear b6 R5 Q5 S5
          clear q0 q1
          obtain ⟨q0, q1, _⟩ := S6.out.1.two
          go_wp2_with fail
          refine (s_CirMatNo L2 _ _ _ gs _ hk.1 hk.2 S6.out.2.2.1 (by omega) (by omega) G1.out).mono ?_
          rintro e w7 ⟨A7, c7, rfl, b7⟩
          have R7 := Lib.hid (R6.out.below b7)
          have Q7 := Lib.hid (Q6.out.below b7)
          have S7 := Lib.hid (S6.out.below b7)
          clear b7 R6 Q6 S6
          clear q0 q1
          obtain ⟨q0, q1, _⟩ := S7.out.1.two
          go_wp2_with fail
          refine (i_RespectsGraph _ _ _ r1 _ _ _ _ ps _ R7.out (by omega) S7.out.2.1 (by omega)).mono ?_
          rintro e w8 ⟨rfl, b8⟩
          rw [G3.out]
          have R8 := Lib.hid (R7.out.below b8)
          have Q8 := Lib.hid (Q7.out.below b8)
          have S8 := Lib.hid (S7.out.below b8)
          clear b8 R7 Q7 S7
          clear q0 q1
          go_wp2_with fail
          refine (i_IsPermutation _ _ _ r2 _ Q8.out (by omega)).mono ?_
          rintro e w9 ⟨rfl, b9⟩
          rw [Z1.out]
          have R9 := Lib.hid (R8.out.below b9)
          have Q9 := Lib.hid (Q8.out.below b9)
          have S9 := Lib.hid (S8.out.below b9)
          clear b9 R8 Q8 S8
          go_wp2_with fail
          refine (s_PermMat L2 _ _ ys _ S9.out.2.2.2.1 Y1.out hzc).mono ?_
          rintro e w10 ⟨A10, c10, rfl, o10, b10⟩
          have P10 := Lib.hid (rd_mat o10)
          clear o10
          have R10 := Lib.hid (R9.out.below b10)
          have Q10 := Lib.hid (Q9.out.below b10)
          have S10 := Lib.hid (S9.out.below b10)
          clear b10 R9 Q9 S9
          go_wp2_with fail
          refine (s_MulNo1 _ _ _ _ _ _).mono ?_
          rintro e w11 ⟨A11, c11, rfl, b11⟩
          clear P10
          have R11 := Lib.hid (R10.out.below b11)
          have Q11 := Lib.hid (Q10.out.below b11)
          have S11 := Lib.hid (S10.out.below b11)
          clear b11 R10 Q10 S10
          go_wp2_with fail
          refine (s_PermMat L2 _ _ r2 _ Q11.out Z1.out hcap2).mono ?_
          rintro e w12 ⟨A12, c12, rfl, o12, b12⟩
          have P12 := Lib.hid (rd_mat o12)
          clear o12
          have R12 := Lib.hid (R11.out.below b12)
          have Q12 := Lib.hid (Q11.out.below b12)
          have S12 := Lib.hid (S11.out.below b12)
          clear b12 R11 Q11 S11
          go_wp2_with fail
          refine (s_MulNo2 L2 _ (2 ^ L2) _ _ _ (flipL (colsU (fun i => basis L2 (idxP r2 i)) (2 ^ L2))) _ P12.out hk.1 hk.2 rfl VQ.out).mono ?_
          rintro e w13 ⟨A13, c13, rfl, b13⟩
          have S13 := Lib.hid (S12.out.below b13)
          go_wp2_with fail
          go_ret
          exact ⟨rfl, S13.out.2.2.2.2⟩

theorem own : ownKnob Try.prog.godebug = none := by kernel_rfl
theorem laidOut : laidOutB Try.prog = true := by kernel_rfl
set_option maxRecDepth 100000 in
theorem lifted (os : Os) (started : os.Started) (H : Type) (enc : TypeId × Value → H) :
    ReturnsInHanded {} Try.checked os 7 .any (Rows.fnRouteSpec.pre6 enc Try.prog Try.f7 Rows.fnRouteRow.domain false) (Rows.fnRouteSpec.post enc Try.prog Try.f7 false true false false) := by
  refine returnsInHanded_of_change (C := Try.checked) own started (by kernel_rfl) Try.func7
    (ChangeSpec.witness6 (enc := enc) (C := Try.checked) false ⟨#[], #[.slice none 0 0], []⟩ 8 (by kernel_rfl) (by kernel_rfl) (by kernel_rfl) (by kernel_rfl)) ?_
  intro W base args ds gs before hval0 hW hcnd _
  have hval : ∀ (j : Nat) t v, Try.f7.params[j]? = some t → args[j]? = some v → Value.okWide Try.prog W .any base t v := hval0
  have hW' := hW
  obtain ⟨p, q, hA0, hV, rfl, hfz, hnd⟩ := hW
  have hA : DataW.TrodAll enc Try.prog W 0 (fun _ => true) true Try.f7.params.toList args.toList ds p := hA0
  rw [Try.params7] at hA hval
  obtain ⟨v0, vs0, d0, ds0, p0, q0, hargs, rfl, rfl, h0, t0⟩ := trodAll_cons hA
  obtain ⟨rfl, rfl, rfl⟩ := trodAll_nil t0
  obtain rfl : args = #[v0] := by cases args; simp_all
  obtain ⟨rfl, rfl⟩ := trodVars_none hV
  have k0 := h0
  have lt0 : ∀ x ∈ p0, x.block < W.heap.size := by obtain ⟨m, hm⟩ := k0; exact DataW.trod_lt m _ _ _ hm
  obtain ⟨A0, n0, c0, rfl⟩ := okWide_slice Try.underlying39 (hval 0 39 v0 rfl rfl)
  obtain ⟨fu0, hf0⟩ := h0
  obtain ⟨_, _, _, x0, e0, r0, l0, m0, ok0⟩ := open_bytes Try.underlying39 Try.underlying5 (by kernel_rfl) hf0
  simp only [Value.slice.injEq] at e0
  obtain ⟨rfl, rfl, rfl⟩ := e0
  clear hA0 hval0
  refine (walk A0 n0 c0 x0 W r0 l0 m0 ok0).mono fun e W' ⟨he, bel⟩ => ?_
  subst he
  exact ⟨_, rfl, _, _, _, [], _, [], hW', trodAll_mk1 (shut_bool Try.underlying4 _), (trodAll_cons_mk (Below.trod laidOut (by kernel_rfl) (of_decide_eq_true (by kernel_rfl)) k0 bel lt0) trodAll_mk0), rfl, bel.frame _, fun h => by cases h⟩

theorem over : Rows.fnRouteRow.holds Try.pinned (OpenSpec.ofChange Rows.fnRouteSpec) :=
  OpenClaim.holds_of_wide 7 Try.f7 rfl rfl rfl rfl rfl rfl rfl ⟨rfl, rfl, rfl, rfl, rfl⟩ rfl rfl rfl rfl rfl (by kernel_rfl) Try.func7 (by kernel_rfl)
    (of_decide_eq_true (by kernel_rfl)) (by unfold Func.isWrapper; first | (rw [if_pos (by decide +kernel)]; kernel_rfl) | (rw [if_neg (by decide +kernel)]; exact ⟨rfl, rfl⟩))
    (fun os started H enc _ => lifted os started H enc)

theorem proved : Rows.FnRouteSaid := over
#print axioms proved
end Go.Proofs.Ytibhikngiceeeaa.fnRoute
