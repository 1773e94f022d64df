/- Contract of PeepholeStep (spec). -/
import Derived.Test.YtjmgpgppammhhaaPeepS
import Derived.Deep.RegionLaw
import Derived.Deep.DeepCutAuto
namespace Go.Proofs.Ytjmgpgppammhhaa
open Go.RowKit

def Own7 (gs : List Gt) (m : Nat) (wd : World) (v : Value) (wx : World) : Prop := ∃ A c, v = .slice A m c ∧ wx.ownsRow wd.heap.size 33 4 (.slice A m c) m (cellsG gs) ∧ Below wd.heap.size wd wx

set_option maxRecDepth 100000 in
set_option maxHeartbeats 1600000 in
theorem s_PeepholeStep (A : Option Addr) (n c : Nat) (l : List Gt) (w : World) (h : RdG w A n l) (hnc : n ≤ c) (hn : n ≤ 1099511627776) :
    Calls Try.prog 49 #[.slice A n c] w (RetGB (stepL l) (stepOk l) w) := by
  have H := Lib.hid h
  clear h
  go_enter Try.func49, Try.ntmps49
  go_wp2_with fail
  go_loopg [4] n (fun m j wr => ∃ i : Nat, i + m = n ∧ j = .int .i64 i ∧ findStep (l.drop i) i = findStep l 0 ∧ Below w.heap.size w wr)
  case atStart => exact ⟨0, by omega, rfl, rfl, Below.refl _ _⟩
  case round =>
    obtain ⟨i, hi, rfl, hs, hb⟩ := hrel
    have HS := Lib.hid hs
    clear hs
    by_cases hlt : i < n
    · have hd := drop_cons (l := l) (k := i) (by have := H.out.1; omega)
      obtain ⟨g, hg⟩ : ∃ g, l[i]'(by have := H.out.1; omega) = g := ⟨_, rfl⟩
      rw [hg] at hd
      have HD := Lib.hid hd
      clear hd hg
      go_wp2_with fail
      refine (s_l34At _ _ _ i l g _ (H.out.below hb) hlt hn HD.out).mono ?_
      intro e w1 hret
      cases hsc : scanB g (l.drop (i + 1)) (i + 1) with
      | none =>
        rw [hsc] at hret
        obtain ⟨rfl, b1⟩ := hret
        have b01 := hb.trans (b1.mono hb.size)
        have FIN := Lib.hid (show findStep (l.drop (i + 1)) (i + 1) = findStep l 0 by
          rw [← HS.out, HD.out, findStep, hsc])
        clear hsc
        go_wp2_with fail
        go_roundg (gk - 1)
        case measure => omega
        case rel => exact ⟨i + 1, by omega, by go_num, FIN.out, b01⟩
      | some k =>
        rw [hsc] at hret
        obtain ⟨A1, c1, h, hdk, rfl, o1, b1⟩ := hret
        have b01 := hb.trans (b1.mono hb.size)
        have hk := scanB_range hsc
        rw [List.length_drop, H.out.1] at hk
        obtain ⟨hk1, hk2⟩ := hk
        have hk3 : k < n := by omega
        have hik : i + 1 ≤ k := hk1
        have FIN := Lib.hid (show stepL l = outOf l i k ∧ stepOk l = true by
          have e : findStep l 0 = some (i, k) := by rw [← HS.out, HD.out, findStep, hsc]
          simp [stepL, stepOk, e])
        have HDK := Lib.hid hdk
        have hml := mergeL_short g h
        have HG := Lib.hid (show outOf l i k = l.take i ++ ((l.drop (i + 1)).take (k - (i + 1)) ++ (mergeL g h ++ l.drop (k + 1))) by
          unfold outOf; rw [getD_drop HD.out, getD_drop hdk])
        clear hsc hk1 hk2 hdk
        have hkp : (0 : Int) < (k : Int) := by omega
        have hi0 : (0 : Int) ≤ (i : Int) := by omega
        have hic : (i : Int) ≤ (c : Int) := by omega
        have hik0 : (i : Int) + 1 ≤ (k : Int) := by omega
        have hkc : (k : Int) ≤ (c : Int) := by omega
        have hwi : IntKind.i64.wrap ((i : Int) + 1) = (i : Int) + 1 := by rw [IntKind.wrap_i64]; omega
        have hsl1 := sl_h A n c i (by omega)
        have hsl2 := sl_lh A n c (i + 1) k (by omega) (by omega)
        rw [Int.natCast_succ] at hsl2
        obtain ⟨A2, hA2⟩ : ∃ A2, (if c = i + 1 then A else A.map (·.add ((i + 1) * 4))) = A2 := ⟨_, rfl⟩
        rw [hA2] at hsl2
        have R1 := Lib.hid ((H.out.below b01).pre (k := i) (by omega))
        have R2 := (H.out.below b01).mid (lo := i + 1) (hi := k) (cap := c) (by omega) (by omega) hnc
        rw [hA2] at R2
        have R2 := Lib.hid R2
        obtain ⟨m2, hm2⟩ : ∃ m2, k - (i + 1) = m2 := ⟨_, rfl⟩
        rw [hm2] at hsl2
        clear hA2
        go_upto_region 6 with fail
        go_cut [7] (fun v wx => Own7 (l.take i ++ (l.drop (i + 1)).take (k - (i + 1))) (i + m2) w1 v wx)
        case first =>
          have hz4 : (Value.agg #[.int .i64 0, .int .i64 0, .int .i64 0, .int .i64 0]).cells.size = 4 := rfl
          have OWN0 : (w1.alloc (.cells #[] 33)).drew.ownsRow w1.heap.size 33 4 (.slice (some ⟨w1.heap.size, 0, none⟩) 0 0) 0 [] := ownsRow_drew (World.ownsRow_lit w1 #[] 0 (size := 4) (e := 33) (Nat.le_refl _) (by simp [maxLen]) rfl)
          have SRC0 : Rd (w1.alloc (.cells #[] 33)).drew 4 A i (cellsG (l.take i)) := (R1.out.2.alloc _).drew
          have BW0 : Below w1.heap.size w1 (w1.alloc (.cells #[] 33)).drew := ((Below.refl _ _).alloc (Nat.le_refl _) _).drew
          have R2' : Hid (Rd w1 4 A2 m2 (cellsG ((l.drop (i + 1)).take (k - (i + 1))))) := by
            have h2 := R2.out.2; rw [hm2] at h2; rw [hm2]; exact h2
          have GLUE := Lib.hid (cellsG_append (l.take i) ((l.drop (i + 1)).take (k - (i + 1))))
          have hm2b : i + m2 ≤ n := by omega
          clear hm2 HG FIN R2
          go_region_held3 (fun w' => True) (first | trivial | skip)
            (first
              | (refine step_app0 (by rfl) (.tmp 22) (.tmp 25) 24 (by rfl) Try.underlying24 infoGate hz4 (by decide) (by simp [Act.eval] <;> rfl) OWN0 (by simp [Act.eval] <;> rfl) SRC0 one_cellsG (by omega) (by decide) BW0.size ?_; intro A3 c3 w3 o3 g3; have BW3 : Below w1.heap.size w1 w3 := below_grown BW0 BW0.size OWN0 (Nat.le_refl _) g3; have SRC1 := R2'.out.below BW3)
              | (refine step_app (by rfl) (.tmp 26) (.tmp 31) 24 (by rfl) Try.underlying24 infoGate hz4 (by decide) (by simp [Act.eval] <;> rfl) o3 (by simp [Act.eval] <;> rfl) SRC1 one_cellsG (by omega) (by decide) BW3.size ?_; intro A4 c4 w4 o4 g4))
          all_goals go_wp2_with fail
          all_goals go_meet
          all_goals exact ⟨A4, c4, rfl, by rw [GLUE.out]; exact o4, below_grown BW3 BW3.size o3 (Nat.le_refl _) g4⟩
        case rest =>
          obtain ⟨A3, c3, rfl, o3, b3⟩ := hcut
          obtain ⟨wd, rfl⟩ : ∃ wd, wd = wc := ⟨_, rfl⟩
          have b03 := b01.trans (b3.mono b01.size)
          have O1 := ownsRow_below o1 b3
          have AP := own_apart o1 o3 (Nat.le_refl _)
          have hsl3 := sl_l A n c (k + 1) (by omega)
          rw [Int.natCast_succ] at hsl3
          obtain ⟨A4, hA4⟩ : ∃ A4, (if c = k + 1 then A else A.map (·.add ((k + 1) * 4))) = A4 := ⟨_, rfl⟩
          rw [hA4] at hsl3
          obtain ⟨m4, hm4⟩ : ∃ m4, n - (k + 1) = m4 := ⟨_, rfl⟩
          have R4 := Lib.hid (show ∀ wx, Below w.heap.size w wx → Rd wx 4 A4 m4 (cellsG (l.drop (k + 1))) from fun wx bx => by
            have h4 := (H.out.below bx).cut (k := k + 1) (cap := c) (by omega) hnc
            rw [hA4, hm4] at h4
            exact h4.2)
          rw [hm4] at hsl3
          have hwk : IntKind.i64.wrap ((k : Int) + 1) = (k : Int) + 1 := by rw [IntKind.wrap_i64]; omega
          have hkn : (k : Int) + 1 ≤ (n : Int) := by omega
          obtain ⟨m1, hm1⟩ : ∃ m1, (mergeL g h).length = m1 := ⟨_, rfl⟩
          have HM1 := Lib.hid hm1
          rw [hm1] at hml
          have LEN := Lib.hid (show (stepL l).length = i + m2 + m1 + m4 by
            rw [FIN.out.1, HG.out]
            have := H.out.1
            simp only [List.length_append, List.length_take, List.length_drop, hm1]; omega)
          have hbd : i + m2 + m1 + m4 ≤ 1099511627777 := by omega
          have GLUE := Lib.hid (show cellsG (stepL l) = (cellsG (l.take i ++ (l.drop (i + 1)).take (k - (i + 1))) ++ cellsG (mergeL g h)) ++ cellsG (l.drop (k + 1)) by
            rw [FIN.out.1, HG.out]; simp [cellsG_append])
          have SB := Lib.hid FIN.out.2
          rw [hm1] at O1 AP
          have O1 := Lib.hid O1
          have AP := Lib.hid AP
          have O3 := Lib.hid o3
          rw [hm1]
          clear hm1 hm2 hm4 hA4 FIN HG o1 o3 hsl1 hsl2 R1 R2
          have hz4 : (Value.agg #[.int .i64 0, .int .i64 0, .int .i64 0, .int .i64 0]).cells.size = 4 := rfl
          have SRC1 : Rd wd.drew 4 A1 m1 (cellsG (mergeL g h)) := (Rd.own O1.out).drew
          have OWN1 : wd.drew.ownsRow w1.heap.size 33 4 (.slice A3 (i + m2) c3) (i + m2) (cellsG (l.take i ++ (l.drop (i + 1)).take (k - (i + 1)))) := ownsRow_drew O3.out
          have hbs1 : w1.heap.size ≤ wd.drew.heap.size := b3.size
          have B3 : Below w1.heap.size w1 wd.drew := b3.drew
          go_wp2_with fail
          go_region_held3 (fun w' => True) (first | trivial | skip)
            (first
              | (refine step_app (by rfl) (.tmp 33) (.tmp 34) 24 (by rfl) Try.underlying24 infoGate hz4 (by decide) (by simp [Act.eval] <;> rfl) OWN1 (by simp [Act.eval] <;> rfl) SRC1 one_cellsG (by omega) (by decide) hbs1 ?_; intro A5 c5 w5 o5 g5; have BW5 : Below w1.heap.size w1 w5 := below_grown B3 hbs1 OWN1 (Nat.le_refl _) g5; have SRC2 := R4.out w5 (b01.trans (BW5.mono b01.size)))
              | (refine step_app (by rfl) (.tmp 35) (.tmp 39) 24 (by rfl) Try.underlying24 infoGate hz4 (by decide) (by simp [Act.eval] <;> rfl) o5 (by simp [Act.eval] <;> rfl) SRC2 one_cellsG (by omega) (by decide) BW5.size ?_; intro A6 c6 w6 o6 g6))
          all_goals go_wp2_with fail
          all_goals go_ret2
          all_goals
            rw [SB.out]
            exact ⟨A6, c6, by rw [LEN.out]; rfl, by rw [LEN.out, GLUE.out]; exact ownsRow_base o6 b01.size, b01.trans ((below_grown BW5 BW5.size o5 (Nat.le_refl _) g6).mono b01.size)⟩
    · have HO := Lib.hid (show stepL l = l ∧ stepOk l = false by
        have e : findStep l 0 = none := by rw [← HS.out, List.drop_eq_nil_of_le (by have := H.out.1; omega)]; rfl
        simp [stepL, stepOk, e])
      have OWN0 := Lib.hid (World.ownsRow_lit wr #[] 0 (size := 4) (e := 33) (Nat.le_refl _) (by simp [maxLen]) rfl)
      have hbs := hb.size
      go_wp2_with (at_builtin; refine wpList_app0 rfl (.tmp 41) (.tmp 42) 24 rfl Try.underlying24 infoGate rfl (by decide) rfl OWN0.out rfl ((H.out.below hb).2.alloc _) one_cellsG (by omega) (by decide) (by simp) ?_; intro A2 c2 w2 o2 g2)
      go_ret2
      have hl := H.out.1
      have b2 : Below wr.heap.size wr w2 := below_grown ((Below.refl _ _).alloc (Nat.le_refl _) _) (by simp) OWN0.out (Nat.le_refl _) g2
      rw [HO.out.1, HO.out.2]
      exact ⟨A2, c2, by rw [hl]; rfl, by rw [hl]; exact ownsRow_base o2 hb.size, hb.trans (b2.mono hb.size)⟩
end Go.Proofs.Ytjmgpgppammhhaa
