/- Contract of l32Add (spec): a term added to the terms. At most 2^39 terms. -/
import Derived.Test.YtibhikngiceeeaaPolyC
import Derived.Test.YtibhikngiceeeaaInv
import Derived.Outline
namespace Go.Proofs.Ytibhikngiceeeaa
open Go.RowKit

def atI (m : Int) (k : Nat) (l : List (Int × Int)) : Int :=
  match atL m k l with
  | some j => j
  | none => -1
theorem atI_hit {m : Int} {k : Nat} {p : Int × Int} {r : List (Int × Int)} (h : (p.1 == m) = true) : atI m k (p :: r) = k := by unfold atI; rw [atL, if_pos h]
theorem atI_miss {m : Int} {k : Nat} {p : Int × Int} {r : List (Int × Int)} (h : (p.1 == m) = false) : atI m k (p :: r) = atI m (k + 1) r := by unfold atI; rw [atL, h]; rfl
theorem plL_stop {m : Int} {k : Nat} {p : Int × Int} {r : List (Int × Int)} (h : m < p.1) : plL m k (p :: r) = k := by rw [plL, if_neg (by simp; omega)]
theorem plL_go {m : Int} {k : Nat} {p : Int × Int} {r : List (Int × Int)} (h : p.1 ≤ m) : plL m k (p :: r) = plL m (k + 1) r := by rw [plL, if_pos (by simpa using h)]
theorem sl_lP (A : Option Addr) (n c lo : Nat) (h1 : lo ≤ n) (w : World) :
    (Instr.slice 29 (.slice A n c) (some (.int .i64 (lo : Int))) none none).run Try.prog w = .ok (.slice (if c = lo then A else A.map (·.add (lo * 2))) (n - lo) (c - lo)) w := by
  have hz : (sizeOf (Try.prog.elem 29)).run Try.prog w = .ok 2 w := by kernel_rfl
  rw [run_slice_l w 29 A n c (by kernel_rfl) .i64 lo (by omega) (by omega), hz]
  simp only [Result.andThen, sliced, Int.toNat_natCast]
theorem sl_hP (A : Option Addr) (n c hi : Nat) (h2 : hi ≤ c) (w : World) :
    (Instr.slice 29 (.slice A n c) none (some (.int .i64 (hi : Int))) none).run Try.prog w = .ok (.slice A hi c) w := by
  have hz : (sizeOf (Try.prog.elem 29)).run Try.prog w = .ok 2 w := by kernel_rfl
  rw [run_slice_h w 29 A n c (by kernel_rfl) .i64 hi (by omega) (by omega), hz]
  simp only [Result.andThen, sliced, Int.toNat_natCast]
  cases A <;> simp [Addr.add]
theorem RdP.pre {w : World} {A : Option Addr} {n : Nat} {gs : List (Int × Int)} (h : RdP w A n gs) {k : Nat} (hk : k ≤ n) : RdP w A k (gs.take k) :=
  ⟨by rw [List.length_take, h.1]; omega, by rw [cellsP_take]; exact h.2.pre hk⟩
theorem RdP.cut {w : World} {A : Option Addr} {n : Nat} {gs : List (Int × Int)} (h : RdP w A n gs) {k cap : Nat} (hk : k ≤ n) (hc : n ≤ cap) : RdP w (if cap = k then A else A.map (·.add (k * 2))) (n - k) (gs.drop k) :=
  ⟨by rw [List.length_drop, h.1], by rw [cellsP_drop]; exact h.2.cut hk hc⟩
theorem own_some {w : World} {base : Nat} {e : TypeId} {sz n c : Nat} {A : Option Addr} {xs : List Value} (h : w.ownsRow base e sz (.slice A n c) n xs) (hn : 0 < n) : ∃ g, A = some ⟨g, 0, none⟩ := by
  rcases h.2 with ⟨_, h0⟩ | ⟨g, _, _, hv, _⟩
  · omega
  · injection hv with hv _ _; exact ⟨g, hv⟩
theorem set_bump (l : List (Int × Int)) (k : Nat) (c : Int) (x y : Int) (hd : l.drop k = (x, y) :: l.drop (k + 1)) : (cellsP l).set (k * 2 + 1) (.int .i64 ((y + c) % 8)) = cellsP (bump l k c) := by
  have hk : k < l.length := by
    rcases Nat.lt_or_ge k l.length with h | h
    · exact h
    · rw [List.drop_eq_nil_of_le h] at hd; cases hd
  have hx : l[k]? = some (x, y) := by have := congrArg (fun r => r[0]?) hd; simpa using this
  have hb : bump l k c = l.take k ++ (x, (y + c) % 8) :: l.drop (k + 1) := by
    unfold bump
    rw [List.getD_eq_getElem?_getD, hx, Option.getD_some, List.set_eq_take_append_cons_drop, if_pos hk]
  have hl : l = l.take k ++ (x, y) :: l.drop (k + 1) := by rw [← hd, List.take_append_drop]
  rw [hb, cellsP_append]
  conv => lhs; rw [hl, cellsP_append]
  rw [List.set_append]
  have hlen : (cellsP (l.take k)).length = k * 2 := by rw [length_cellsP, List.length_take]; omega
  rw [if_neg (by omega), hlen]
  simp [cellsP, show k * 2 + 1 - k * 2 = 1 by omega]

theorem ins_own {w : World} {base n : Nat} {e : TypeId} {v : Value} {a b l : List (Int × Int)} {m : Int} (h : l = a ++ (m, 0) :: b) (ho : w.ownsRow base e 2 v n (cellsP a ++ [.int .i64 m, .int .i64 0] ++ cellsP b)) : w.ownsRow base e 2 v n (cellsP l) := by
  have e1 : cellsP l = cellsP a ++ [.int .i64 m, .int .i64 0] ++ cellsP b := by rw [h, cellsP_append]; simp [cellsP]
  rw [e1]; exact ho
/-- What stands ahead of and behind the store of a turned coefficient. -/
theorem bump_prep {wx : World} {base B : Nat} {w : World} {A : Option Addr} {L cX : Nat} {b : List (Int × Int)} (k : Nat) (c : Int) (e : TypeId) (ho : wx.ownsRow base e 2 (.slice A L cX) L (cellsP b)) (hk : k < b.length) (hb : Below B w wx) (hB : B ≤ base) :
    ∃ (g : Nat) (x y : Int), A = some ⟨g, 0, none⟩ ∧ wx.cell? ⟨g, k * 2, none⟩ = some (.int .i64 x) ∧ wx.cell? ⟨g, k * 2 + 1, none⟩ = some (.int .i64 y) ∧ wx.frozen? ⟨g, k * 2 + 1, none⟩ = false ∧ base ≤ g ∧ b.length = L ∧
      Hid ((wx.setCell ⟨g, k * 2 + 1, none⟩ (.int .i64 ((y + c) % 8))).ownsRow base e 2 (.slice (some ⟨g, 0, none⟩) L cX) L (cellsP (bump b k c))) ∧ Hid (Below B w (wx.setCell ⟨g, k * 2 + 1, none⟩ (.int .i64 ((y + c) % 8)))) ∧ wx.grownBy (wx.setCell ⟨g, k * 2 + 1, none⟩ (.int .i64 ((y + c) % 8))) (some g) := by
  have hL : b.length = L := by have := ho.1; rw [length_cellsP] at this; omega
  obtain ⟨g, rfl⟩ := own_some ho (by omega)
  obtain ⟨x, y, hd⟩ : ∃ x y, b.drop k = (x, y) :: b.drop (k + 1) := ⟨_, _, drop_cons hk⟩
  have f2 := flat2 _ _ _ _ hd
  have hg := (ho.lt g rfl).1
  have s1 := ho.stored (k * 2 + 1) (.int .i64 ((y + c) % 8))
  refine ⟨g, x, y, rfl, (ho.cellAt (k * 2) (by omega)).trans f2.1, (ho.cellAt (k * 2 + 1) (by omega)).trans f2.2, ho.frozenAt _, hg, hL, Lib.hid ?_, Lib.hid (hb.setCell (by show B ≤ g; omega) _), s1.2⟩
  rw [← set_bump _ _ _ _ _ hd]
  exact s1.1

set_option maxRecDepth 100000 in
set_option maxHeartbeats 3200000 in
theorem s_l32Add (A : Option Addr) (n cap : Nat) (t : List (Int × Int)) (m c : Int) (w : World) (h : RdP w A n t) (hn : n ≤ 549755813888) (hnc : n ≤ cap) :
    Calls Try.prog 118 #[.slice A n cap, .int .i64 m, .int .i64 c] w (Ret 107 2 (cellsP (addT t m c)) (addT t m c).length w) := by
  have H := Lib.hid h
  have hl := h.1
  have HLN := Lib.hid hl
  clear h
  obtain ⟨R, hR⟩ : ∃ R, addT t m c = R := ⟨_, rfl⟩
  have HR := Lib.hid hR
  rw [hR]
  obtain ⟨pl, hpl⟩ : ∃ pl, plL m 0 t = pl := ⟨_, rfl⟩
  have hplb := plL_ge m 0 t
  rw [hpl, hl] at hplb
  have hpl2 : pl ≤ n := by omega
  have HPL := Lib.hid hpl
  have hslh := sl_hP A n cap pl (by omega)
  have hsll := sl_lP A n cap pl (by omega)
  obtain ⟨AC, hAC⟩ : ∃ AC, (if cap = pl then A else A.map (·.add (pl * 2))) = AC := ⟨_, rfl⟩
  rw [hAC] at hsll
  have HC : Hid (RdP w AC (n - pl) (t.drop pl)) := Lib.hid (by rw [← hAC]; exact H.out.cut hpl2 hnc)
  clear hR hl hpl hplb hAC
  go_enter Try.func118, Try.ntmps118
  go_wp2_with fail
  go_loopg [7, 8, 9] (n + 1) (fun r va vp i wr => ∃ (k : Nat), k + 1 = r ∧ k ≤ n ∧ i = .int .i64 ((k : Int) - 1) ∧ va = .int .i64 (atI m k (t.drop k)) ∧ vp = .int .i64 (plL m k (t.drop k)) ∧ w = wr)
  case atStart => exact ⟨n, rfl, by omega, by simp, by rw [List.drop_eq_nil_of_le (by have := HLN.out; omega)]; rfl, by rw [List.drop_eq_nil_of_le (by have := HLN.out; omega)]; rfl, rfl⟩
  case round =>
    obtain ⟨k, hk, hkn, rfl, rfl, rfl, rfl⟩ := hrel
    rcases k with _ | j
    · have HD0 : Hid (t.drop 0 = t) := Lib.hid rfl
      clear hk
      rw [HD0.out, HPL.out]
      obtain ⟨va, hva⟩ : ∃ va, atI m 0 t = va := ⟨_, rfl⟩
      rw [hva]
      have HW : Hid (withT t m = (if va < 0 then t.take pl ++ (m, 0) :: t.drop pl else t) ∧ (atT t m : Int) = (if va < 0 then (pl : Int) else va) ∧ (va = -1 ∨ 0 ≤ va)) := Lib.hid (by
        unfold withT atT
        unfold atI at hva
        rw [HPL.out]
        cases h : atL m 0 t with
        | none => rw [h] at hva; simp only at hva ⊢; subst hva; exact ⟨rfl, rfl, .inl rfl⟩
        | some j => rw [h] at hva; simp only at hva ⊢; subst hva; rw [if_neg (by omega), if_neg (by omega)]; exact ⟨rfl, rfl, .inr (by omega)⟩)
      clear hva
      have hz2 : (Value.agg #[.int .i64 0, .int .i64 0]).cells.size = 2 := rfl
      rcases (show va = -1 ∨ 0 ≤ va from HW.out.2.2) with hva | hva
      · subst hva
        obtain ⟨hw1, hw2, _⟩ := HW.out
        rw [if_pos (by omega)] at hw1 hw2
        have HWT := Lib.hid hw1
        have HKA : Hid (atT t m = pl) := Lib.hid (by omega)
        have HKL : Hid (pl < (withT t m).length) := Lib.hid (by rw [← HKA.out]; exact atT_lt t m)
        clear hw1 hw2 HW
        go_wp2_with (first
          | (at_builtin; refine wpList_mk0 rfl (.tmp 38) (.tmp 39) 29 rfl Try.underlying29 infoPhaseTerm hz2 (base := w.heap.size) rfl (Bx.new' (by simp)) (Nat.le_refl _) rfl (H.out.2.alloc _) (by omega) (by decide) ?_; intro A1 c1 w1 o1 b1; have B1 := Lib.hid (below_alloc b1); have hs1 := B1.out.size; clear o1 b1)
          | (at_builtin; refine wpList_mk0 rfl (.tmp 44) (.tmp 47) 29 rfl Try.underlying29 infoPhaseTerm hz2 (base := w.heap.size) rfl (Bx.new' (by simp)) hs1 rfl ((((H.out.pre hpl2).2.below B1.out)).alloc _) (by omega) (by decide) ?_; intro A2 c2 w2 o2 b2; have B2 := Lib.hid (below_trans (B1.out.alloc hs1 _) b2); have O2 := Lib.hid o2; have hs2 := B2.out.size; clear o2 b2)
          | (at_builtin; refine wpList_app rfl (.tmp 48) (.tmp 51) 29 rfl Try.underlying29 infoPhaseTerm rfl (by decide) rfl (O2.out.alloc _) rfl (Rd.lit _ 107 #[.int .i64 m, .int .i64 0] 1 2 rfl) (by simp [Value.oneCell']) (by omega) (by decide) (by simp <;> omega) ?_; intro A3 c3 w3 o3 g3; have O3 := Lib.hid o3; have B3 := Lib.hid (below_grown (B2.out.alloc hs2 _) (by simp <;> omega) (O2.out.alloc _) (Nat.le_refl _) g3); have hs3 := B3.out.size; clear o3 g3)
          | (at_builtin; refine wpList_app rfl (.tmp 53) (.tmp 56) 29 rfl Try.underlying29 infoPhaseTerm rfl (by decide) rfl O3.out rfl (HC.out.2.below B3.out) one_cellsP (by omega) (by decide) hs3 ?_; intro A4 c4 w4 o4 g4; have O4 := Lib.hid o4; have OW4 := ins_own HWT.out o4; obtain ⟨gx, x, y, rfl, e0, e1, z1, hgx, hL, SO, SB, _⟩ := bump_prep pl c _ OW4 HKL.out (below_grown B3.out hs3 O3.out (Nat.le_refl _) g4) (Nat.le_refl _); have hplI0 : (0 : Int) ≤ (pl : Int) := (by omega); have hplI : (pl : Int) < ((pl + 1 + (n - pl) : Nat) : Int) := (by omega); clear o4 g4 O4 OW4))
        have HWR : Hid (wrap64 (y + c) % 8 = (y + c) % 8) := Lib.hid (wrap_mod8 _)
        refine (s_l32Rest _ _).mono ?_
        rintro e wq ⟨rfl, rfl⟩
        rw [HWR.out]
        obtain ⟨b, hb⟩ : ∃ b, bump (withT t m) pl c = b := ⟨_, rfl⟩
        rw [hb] at SO
        have HBL : Hid (b.length = (pl + 1 + (n - pl))) := Lib.hid (by rw [← hb, bump_len, hL])
        have HRB : Hid (nz b = R) := Lib.hid (by rw [← hb, ← HR.out]; unfold addT; rw [HKA.out])
        have SR := Lib.hid (RdP.own SO.out)
        clear hb SO
        go_wp2_with fail
        clear e0 e1 z1
        obtain ⟨wy, hwy⟩ : ∃ wy, wy = w4.setCell ⟨gx, pl * 2 + 1, none⟩ (.int .i64 ((y + c) % 8)) := ⟨_, rfl⟩
        rw [← hwy] at SR SB ⊢
        have HSY : Hid (wy.heap.size = w4.heap.size) := Lib.hid (by rw [hwy]; simp [World.setCell])
        clear hwy
        have hwys := SB.out.size
        go_loopg [11, 12] ((pl + 1 + (n - pl))) (fun r v i wr => ∃ (k q : Nat) (A0 : Option Addr) (c0 : Nat), k + r = (pl + 1 + (n - pl)) ∧ i = .int .i64 k ∧ v = .slice A0 q c0 ∧ q ≤ k ∧ (nz (b.take k)).length = q ∧ wr.ownsRow wy.heap.size 107 2 (.slice A0 q c0) q (cellsP (nz (b.take k))) ∧ Below wy.heap.size wy wr)
        case atStart => exact ⟨0, 0, _, _, by omega, rfl, rfl, Nat.le_refl _, by simp [nz], by rw [← HSY.out]; simpa [nz, cellsP] using World.ownsRow_lit wy #[] 0 (size := 2) (e := 107) (Nat.le_refl _) (by simp [maxLen]) rfl, (Below.refl _ _).alloc (Nat.le_refl _) _⟩
        case round =>
          obtain ⟨k, q, A0, c0, hk, rfl, rfl, hqk, hq, ho, hbw⟩ := hrel
          have HQ := Lib.hid hq
          have HO := Lib.hid ho
          have HB := Lib.hid hbw
          have hbs := hbw.size
          clear hq ho hbw
          by_cases hlt : k < (pl + 1 + (n - pl))
          · obtain ⟨bb, off, u, v, hA, hBb, hd, d0, d1⟩ := (SR.out.below HB.out).at_ hlt
            injection hA with hA
            injection hA with hA1 hA2 _
            subst hA1 hA2
            rw [Nat.zero_add] at d0 d1
            have HD := Lib.hid hd
            have HN : Hid (nz (b.take (k + 1)) = nz (b.take k) ++ (if (v == 0) = true then [] else [(u, v)])) := Lib.hid (by rw [take_snoc HD.out, nz_snoc])
            have hkI : (k : Int) < (((pl + 1 + (n - pl)) : Nat) : Int) := by omega
            have hk0 : (0 : Int) ≤ (k : Int) := by omega
            clear hd
            by_cases hv : v = 0
            · subst hv
              go_wp2_with fail
              go_roundg (gk - 1)
              case measure => omega
              case rel => exact ⟨k + 1, q, A0, c0, by omega, by go_num, rfl, by omega, by rw [HN.out]; simpa using HQ.out, by rw [HN.out]; simpa using HO.out, HB.out⟩
            · have hv1 : (v == 0) = false := by simpa using hv
              have HV := Lib.hid hv1
              have hv2 : (v != 0) = true := by simp [bne, hv1]
              have DA := Lib.hid (HO.out.alloc (.cells #[.int .i64 u, .int .i64 v] 107))
              go_wp2_with (at_builtin; refine wpList_app rfl (.tmp 83) (.tmp 88) 29 rfl Try.underlying29 infoPhaseTerm rfl (by decide) rfl DA.out rfl (Rd.lit _ 107 #[.int .i64 u, .int .i64 v] 1 2 rfl) (by simp [Value.oneCell']) (by omega) (by decide) (by simp <;> omega) ?_; intro A5 c5 w5 o5 g5)
              go_roundg (gk - 1)
              case measure => omega
              case rel =>
                refine ⟨k + 1, q + 1, A5, c5, by omega, by go_num, rfl, by omega, by rw [HN.out, HV.out]; simp [HQ.out], ?_, below_grown (HB.out.alloc hbs _) (by simp; omega) DA.out (Nat.le_refl _) g5⟩
                rw [HN.out, HV.out]
                rw [show nz (b.take k) ++ (if false = true then [] else [(u, v)]) = nz (b.take k) ++ [(u, v)] from rfl, cellsP_append]
                exact o5
          · have hkL : k = (pl + 1 + (n - pl)) := by omega
            go_wp2_with fail
            go_ret
            have e : nz (b.take k) = R := by rw [List.take_of_length_le (by have := HBL.out; omega), HRB.out]
            have HOO := HO.out
            have HQQ := HQ.out
            rw [e] at HOO HQQ
            subst HQQ
            exact ⟨A0, c0, rfl, ownsRow_base HOO hwys, SB.out.trans (HB.out.mono hwys)⟩
      · obtain ⟨ka, rfl⟩ : ∃ ka : Nat, va = ka := ⟨va.toNat, by omega⟩
        obtain ⟨hw1, hw2, _⟩ := HW.out
        rw [if_neg (by omega)] at hw1 hw2
        have HWT := Lib.hid hw1
        have HKA : Hid (atT t m = ka) := Lib.hid (by omega)
        have HKL : Hid (ka < (withT t m).length) := Lib.hid (by rw [← HKA.out]; exact atT_lt t m)
        have hkan : ka < n := by have := HKL.out; rw [hw1, HLN.out] at this; exact this
        have hka0 : (0 : Int) ≤ (ka : Int) := by omega
        have hkaI : (ka : Int) < (n : Int) := by omega
        clear hw1 hw2 HW hva
        go_wp2_with (at_builtin; refine wpList_mk0 rfl (.tmp 38) (.tmp 39) 29 rfl Try.underlying29 infoPhaseTerm hz2 (base := w.heap.size) rfl (Bx.new' (by simp)) (Nat.le_refl _) rfl (H.out.2.alloc _) (by omega) (by decide) ?_; intro A1 c1 w1 o1 b1; have OW4 := (HWT.out.symm ▸ o1 : w1.ownsRow w.heap.size 107 2 (.slice A1 n c1) n (cellsP (withT t m))); obtain ⟨gx, x, y, rfl, e0, e1, z1, hgx, hL, SO, SB, _⟩ := bump_prep ka c _ OW4 HKL.out (below_alloc b1) (Nat.le_refl _); clear o1 b1 OW4)
        have HWR : Hid (wrap64 (y + c) % 8 = (y + c) % 8) := Lib.hid (wrap_mod8 _)
        refine (s_l32Rest _ _).mono ?_
        rintro e wq ⟨rfl, rfl⟩
        rw [HWR.out]
        obtain ⟨b, hb⟩ : ∃ b, bump (withT t m) ka c = b := ⟨_, rfl⟩
        rw [hb] at SO
        have HBL : Hid (b.length = n) := Lib.hid (by rw [← hb, bump_len, hL])
        have HRB : Hid (nz b = R) := Lib.hid (by rw [← hb, ← HR.out]; unfold addT; rw [HKA.out])
        have SR := Lib.hid (RdP.own SO.out)
        clear hb SO
        go_wp2_with fail
        clear e0 e1 z1
        obtain ⟨wy, hwy⟩ : ∃ wy, wy = w1.setCell ⟨gx, ka * 2 + 1, none⟩ (.int .i64 ((y + c) % 8)) := ⟨_, rfl⟩
        rw [← hwy] at SR SB ⊢
        have HSY : Hid (wy.heap.size = w1.heap.size) := Lib.hid (by rw [hwy]; simp [World.setCell])
        clear hwy
        have hwys := SB.out.size
        go_loopg [11, 12] (n) (fun r v i wr => ∃ (k q : Nat) (A0 : Option Addr) (c0 : Nat), k + r = n ∧ i = .int .i64 k ∧ v = .slice A0 q c0 ∧ q ≤ k ∧ (nz (b.take k)).length = q ∧ wr.ownsRow wy.heap.size 107 2 (.slice A0 q c0) q (cellsP (nz (b.take k))) ∧ Below wy.heap.size wy wr)
        case atStart => exact ⟨0, 0, _, _, by omega, rfl, rfl, Nat.le_refl _, by simp [nz], by rw [← HSY.out]; simpa [nz, cellsP] using World.ownsRow_lit wy #[] 0 (size := 2) (e := 107) (Nat.le_refl _) (by simp [maxLen]) rfl, (Below.refl _ _).alloc (Nat.le_refl _) _⟩
        case round =>
          obtain ⟨k, q, A0, c0, hk, rfl, rfl, hqk, hq, ho, hbw⟩ := hrel
          have HQ := Lib.hid hq
          have HO := Lib.hid ho
          have HB := Lib.hid hbw
          have hbs := hbw.size
          clear hq ho hbw
          by_cases hlt : k < n
          · obtain ⟨bb, off, u, v, hA, hBb, hd, d0, d1⟩ := (SR.out.below HB.out).at_ hlt
            injection hA with hA
            injection hA with hA1 hA2 _
            subst hA1 hA2
            rw [Nat.zero_add] at d0 d1
            have HD := Lib.hid hd
            have HN : Hid (nz (b.take (k + 1)) = nz (b.take k) ++ (if (v == 0) = true then [] else [(u, v)])) := Lib.hid (by rw [take_snoc HD.out, nz_snoc])
            have hkI : (k : Int) < ((n : Nat) : Int) := by omega
            have hk0 : (0 : Int) ≤ (k : Int) := by omega
            clear hd
            by_cases hv : v = 0
            · subst hv
              go_wp2_with fail
              go_roundg (gk - 1)
              case measure => omega
              case rel => exact ⟨k + 1, q, A0, c0, by omega, by go_num, rfl, by omega, by rw [HN.out]; simpa using HQ.out, by rw [HN.out]; simpa using HO.out, HB.out⟩
            · have hv1 : (v == 0) = false := by simpa using hv
              have HV := Lib.hid hv1
              have hv2 : (v != 0) = true := by simp [bne, hv1]
              have DA := Lib.hid (HO.out.alloc (.cells #[.int .i64 u, .int .i64 v] 107))
              go_wp2_with (at_builtin; refine wpList_app rfl (.tmp 83) (.tmp 88) 29 rfl Try.underlying29 infoPhaseTerm rfl (by decide) rfl DA.out rfl (Rd.lit _ 107 #[.int .i64 u, .int .i64 v] 1 2 rfl) (by simp [Value.oneCell']) (by omega) (by decide) (by simp <;> omega) ?_; intro A5 c5 w5 o5 g5)
              go_roundg (gk - 1)
              case measure => omega
              case rel =>
                refine ⟨k + 1, q + 1, A5, c5, by omega, by go_num, rfl, by omega, by rw [HN.out, HV.out]; simp [HQ.out], ?_, below_grown (HB.out.alloc hbs _) (by simp; omega) DA.out (Nat.le_refl _) g5⟩
                rw [HN.out, HV.out]
                rw [show nz (b.take k) ++ (if false = true then [] else [(u, v)]) = nz (b.take k) ++ [(u, v)] from rfl, cellsP_append]
                exact o5
          · have hkL : k = n := by omega
            go_wp2_with fail
            go_ret
            have e : nz (b.take k) = R := by rw [List.take_of_length_le (by have := HBL.out; omega), HRB.out]
            have HOO := HO.out
            have HQQ := HQ.out
            rw [e] at HOO HQQ
            subst HQQ
            exact ⟨A0, c0, rfl, ownsRow_base HOO hwys, SB.out.trans (HB.out.mono hwys)⟩
    · have e0 : ((j + 1 : Nat) : Int) - 1 = (j : Int) := by omega
      rw [e0]
      have hjn : j < n := by omega
      obtain ⟨g, off, x, y, rfl, hB, hd, c0, c1⟩ := H.out.at_ hjn
      have HD := Lib.hid hd
      clear hd e0
      have hj0 : (0 : Int) ≤ (j : Int) := by omega
      have hjI : (j : Int) < (n : Int) := by omega
      obtain ⟨va, hva⟩ : ∃ va, atI m (j + 1) (t.drop (j + 1)) = va := ⟨_, rfl⟩
      obtain ⟨vp, hvp⟩ : ∃ vp, plL m (j + 1) (t.drop (j + 1)) = vp := ⟨_, rfl⟩
      rw [hva, hvp]
      have HVA := Lib.hid hva
      have HVP := Lib.hid hvp
      clear hva hvp
      rcases Int.lt_trichotomy x m with hx | hx | hx
      · have h1 : (x == m) = false := by simp; omega
        have h2 : ¬ m < x := by omega
        go_wp2_with fail
        go_roundg (gk - 1)
        case measure => omega
        case rel => exact ⟨j, by omega, by omega, rfl, by rw [HD.out, atI_miss h1, HVA.out], by rw [HD.out, plL_go (by show x ≤ m; omega), HVP.out], rfl⟩
      · subst hx
        go_wp2_with fail
        go_roundg (gk - 1)
        case measure => omega
        case rel => exact ⟨j, by omega, by omega, rfl, by rw [HD.out, atI_hit (by simp)], by rw [HD.out, plL_go (p := (x, y)) (Int.le_refl _), HVP.out], rfl⟩
      · have h1 : (x == m) = false := by simp; omega
        go_wp2_with fail
        go_roundg (gk - 1)
        case measure => omega
        case rel => exact ⟨j, by omega, by omega, rfl, by rw [HD.out, atI_miss h1, HVA.out], by rw [HD.out, plL_stop hx], rfl⟩
end Go.Proofs.Ytibhikngiceeeaa
