/- Contract of ShortestPath (impl). The graph has at most 2^40 edges. -/
import Derived.Test.YtibhikngiceeeaaPath
namespace Go.Proofs.Ytibhikngiceeeaa
open Go.RowKit

set_option maxRecDepth 100000 in
set_option maxHeartbeats 6400000 in
theorem i_path_in (N : Nat) (A : Option Addr) (n cap : Nat) (a b D : Nat) (ps : List (Int × Int)) (w : World) (h : RdP w A n ps) (hn : n ≤ 1099511627776) (hN1 : 1 ≤ N) (hN4 : N ≤ 4) (ha : a < N) (hb : b < N) (hD : gd ps N a b = D) :
    Calls Try.prog 142 #[.agg #[.int .i64 N, .slice A n cap], .int .i64 a, .int .i64 b] w (Ret 3 1 (cellsI ((a : Int) :: pS ps N b D a)) (D + 1) w) := by
  have H := Lib.hid h
  have HD := Lib.hid hD
  have hD4 : D < 4 := by have := gd_lt ps N a b; omega
  clear h hD
  obtain ⟨R, hR⟩ : ∃ R, (a : Int) :: pS ps N b D a = R := ⟨_, rfl⟩
  have HR := Lib.hid hR
  rw [hR]
  clear hR
  have X0 := Lib.hid (Bx.new w 61 #[.int .i64 N, .slice A n cap])
  go_enter Try.func142, Try.ntmps142
  go_wp2_with fail
  refine (i_GraphDistance _ _ _ _ _ _ _ _ (H.out.alloc _) hn).mono ?_
  rintro e w1 ⟨rfl, b1⟩
  rw [HD.out]
  have X1 := Lib.hid (X0.out.below b1)
  have b01 : Below w.heap.size w w1 := below_alloc b1
  have hs1 := b01.size
  clear X0 b1
  go_wp2_with fail
  go_loopg [7, 8] D (fun m v7 v8 wr => ∃ (cur L : Nat) (pre : List Int) (A7 : Option Addr) (c7 : Nat), v7 = .int .i64 m ∧ v8 = .slice A7 (L + 1) c7 ∧ pre.length = L ∧ cur < N ∧ gd ps N cur b = m ∧ pre ++ [(cur : Int)] ++ pS ps N b m cur = R ∧ wr.ownsRow w.heap.size 3 1 (.slice A7 (L + 1) c7) (L + 1) (cellsI (pre ++ [(cur : Int)])) ∧ Bx wr w.heap.size 61 #[.int .i64 N, .slice A n cap] ∧ Below w.heap.size w wr ∧ L + m = D)
  case atStart =>
    refine ⟨a, 0, [], _, _, rfl, rfl, rfl, ha, HD.out, HR.out, ?_, X1.out.alloc _, b01.alloc hs1 _, by omega⟩
    exact World.ownsRow_lit w1 #[.int .i64 a] 1 (size := 1) (e := 3) (base := w.heap.size) hs1 (by simp [maxLen]) rfl
  case round =>
    clear X1 b01 hs1
    obtain ⟨cur, L, pre, A7, c7, rfl, rfl, hpl, hcur, hg, hpath, hown, hx, hbw, hlen⟩ := hrel
    have HG := Lib.hid hg
    have HPth := Lib.hid hpath
    have OW := Lib.hid hown
    have HX := Lib.hid hx
    clear hg hpath hown hx
    obtain ⟨p0, p1, _, _⟩ := HX.out.two
    have hs0 := hbw.size
    rcases Nat.eq_zero_or_pos gk with h0 | h0
    · subst h0
      go_wp2_with fail
      go_ret
      have e1 : pre ++ [(cur : Int)] = R := by have := HPth.out; rwa [pS, List.append_nil] at this
      rw [← e1]
      refine ⟨A7, c7, ?_, ?_, hbw⟩
      · rw [show D + 1 = L + 1 by omega]; rfl
      · rw [show D + 1 = L + 1 by omega]; exact OW.out
    · obtain ⟨d, rfl⟩ : ∃ d, gk = d + 1 := ⟨gk - 1, by omega⟩
      obtain ⟨x, hx1, hx2, hx3, hx4⟩ := nxt_ok hN1 hN4 hcur hb HG.out
      have HN := Lib.hid hx1
      have HG2 := Lib.hid hx4
      clear hx1 hx3 hx4
      obtain ⟨bo, oo, xo, hA7, hBo, hd, co0⟩ := (RdI.own OW.out).at_ (show L < L + 1 by omega)
      obtain rfl : xo = (cur : Int) := by
        rw [← hpl, List.drop_left] at hd
        injection hd with hd _
        exact hd.symm
      subst hA7
      clear hd
      go_wp2_with fail
      obtain ⟨wo, rfl⟩ : ∃ wo, wo = wr := ⟨_, rfl⟩
      go_loopg [8, 9] N (fun m v8 j wr => ∃ k : Nat, k + m = N ∧ v8 = .slice (some ⟨bo, oo, none⟩) (L + 1) c7 ∧ j = .int .i64 k ∧ firstK (nearer ps N b cur d) N m = some (x : Int) ∧ Below wo.heap.size wo wr)
      case atStart => exact ⟨0, by omega, rfl, rfl, HN.out, Below.refl _ _⟩
      case round =>
        clear p0 p1
        obtain ⟨k, hk, rfl, rfl, hf, hb2⟩ := hrel
        have HF := Lib.hid hf
        clear hf
        have X3 := Lib.hid (HX.out.below hb2)
        obtain ⟨p0, p1, _, _⟩ := X3.out.two
        have HP := Lib.hid (((H.out.below hbw).below hb2).drew)
        have hs2 := hb2.size
        by_cases hlt : k < N
        · have HS := Lib.hid (firstK_step (p := nearer ps N b cur d) hk hlt)
          have co : wr.cell? ⟨bo, oo + L, none⟩ = some (.int .i64 cur) := (hb2.cell (p := ⟨bo, oo + L, none⟩) hBo).trans co0
          have hi0 : (0 : Int) ≤ (L : Int) := by omega
          have hi1 : (L : Int) < ((L + 1 : Nat) : Int) := by omega
          have hi2 : (L : Int) < (L : Int) + 1 := by omega
          have hw1 : IntKind.i64.wrap (L : Int) = (L : Int) := by rw [IntKind.wrap_i64]; omega
          have hw2 : IntKind.i64.wrap (((L + 1 : Nat) : Int) - 1) = (L : Int) := by rw [IntKind.wrap_i64]; omega
          have hw3 : IntKind.i64.wrap ((L : Int) + 1 - 1) = (L : Int) := by rw [IntKind.wrap_i64]; omega
          go_upto_region 10 with fail
          go_cut [44] (fun s44 wx => s44 = .bool (nearer ps N b cur d k) ∧ Below wr.heap.size wr wx)
          case first =>
            cases h3 : coup ps cur k
            · have H3 := Lib.hid h3
              clear h3
              first
              | go_region_with (go_at_call 98; refine (i_AreCoupled _ _ _ _ _ _ _ _ HP.out hn).mono ?_; rintro e w2 ⟨rfl, b2⟩; rw [H3.out])
              | fail "region"
              all_goals go_wp2_with fail
              all_goals go_meet
              all_goals exact ⟨by rw [near_f H3.out], below_drew b2⟩
            · have H3 := Lib.hid h3
              clear h3
              obtain ⟨G, hG⟩ : ∃ G, gd ps N k b = G := ⟨_, rfl⟩
              have HGG := Lib.hid hG
              clear hG
              go_region_held3 (fun w' => w'.cell? ⟨w.heap.size, 0, none⟩ = some (.int .i64 N) ∧ w'.cell? ⟨w.heap.size, 1, none⟩ = some (.slice A n cap) ∧ w'.cell? ⟨bo, oo + L, none⟩ = some (.int .i64 cur))
                (first | go_keep)
                (first
                  | (go_at_call 98; refine (i_AreCoupled _ _ _ _ _ _ _ _ HP.out hn).mono ?_; rintro e w2 ⟨rfl, b2⟩; rw [H3.out]; have k0 := b2.cell (p := ⟨w.heap.size, 0, none⟩) X3.out.lt; have k1 := b2.cell (p := ⟨w.heap.size, 1, none⟩) X3.out.lt; have k2 := b2.cell (p := ⟨bo, oo + L, none⟩) (by simp <;> omega))
                  | (go_at_call 141; refine (i_GraphDistance _ _ _ _ _ _ _ _ (HP.out.below b2) hn).mono ?_; rintro e w3 ⟨rfl, b3⟩; rw [HGG.out]; have m0 := b3.cell (p := ⟨w.heap.size, 0, none⟩) (X3.out.drew.below b2).lt; have m1 := b3.cell (p := ⟨w.heap.size, 1, none⟩) (X3.out.drew.below b2).lt; have m2 := b3.cell (p := ⟨bo, oo + L, none⟩) (by have := b2.size; simp at this ⊢ <;> omega)))
              all_goals go_wp2_with fail
              all_goals go_meet
              all_goals refine ⟨?_, below_drew (below_trans b2 b3)⟩
              all_goals (unfold nearer; rw [H3.out, HGG.out]; rfl)
          case rest =>
            obtain ⟨rfl, b2⟩ := hcut
            cases h5 : nearer ps N b cur d k
            · have H5 := Lib.hid h5
              clear h5
              go_wp2_with fail
              go_roundg (gk - 1)
              case measure => omega
              case rel =>
                refine ⟨k + 1, by omega, rfl, by go_num, ?_, hb2.trans (b2.mono hs2)⟩
                rw [← HF.out, HS.out, H5.out]; rfl
            · have hx5 : (k : Int) = x := by
                have := HF.out
                rw [HS.out, h5, if_pos rfl] at this
                injection this
              obtain rfl : k = x := by omega
              clear h5
              have b24 := hb2.trans (b2.mono hs2)
              have O4 := Lib.hid (ownsRow_below OW.out b24)
              have X4 := Lib.hid (HX.out.below b24)
              have b04 := hbw.trans (b24.mono hs0)
              have hs4 := b04.size
              clear b2 p0 p1 co
              go_wp2_with (at_builtin; refine wpList_app rfl (.tmp 45) (.tmp 47) 62 rfl Try.underlying62 infoInt rfl (by decide) rfl (O4.out.alloc _) rfl (Rd.lit _ 3 #[.int .i64 k] 1 1 rfl) (by simp [Value.oneCell']) (by omega) (by decide) (by first | omega | (simp <;> omega)) ?_; intro A5 c5 w5 o5 g5)
              go_roundg d
              case measure => omega
              case rel =>
                refine ⟨k, L + 1, pre ++ [(cur : Int)], A5, c5, by go_num, rfl, by simp; omega, hlt, HG2.out, ?_, by simpa [cellsI] using o5, kept_app (O4.out.alloc _) g5 (X4.out.alloc _) (by decide), below_grown (b04.alloc hs4 _) (by simp <;> omega) (O4.out.alloc _) (Nat.le_refl _) g5, by omega⟩
                rw [← HPth.out, pS_step HN.out, List.append_assoc]; rfl
        · obtain rfl : gk = 0 := by omega
          exact absurd HF.out (by simp [firstK])

theorem i_ShortestPath_no (N : Int) (A : Option Addr) (n cap : Nat) (a b : Int) (ps : List (Int × Int)) (w : World) (h : RdP w A n ps) (hn : n ≤ 1099511627776) (hD : gd ps N a b = -1) :
    Calls Try.prog 142 #[.agg #[.int .i64 N, .slice A n cap], .int .i64 a, .int .i64 b] w (Ret 3 1 (cellsI []) 0 w) := by
  have H := Lib.hid h
  have HD := Lib.hid hD
  clear h hD
  go_enter Try.func142, Try.ntmps142
  go_wp2_with fail
  refine (i_GraphDistance _ _ _ _ _ _ _ _ (H.out.alloc _) hn).mono ?_
  rintro e w1 ⟨rfl, b1⟩
  rw [HD.out]
  go_wp2_with fail
  go_ret
  exact ⟨_, _, rfl, World.ownsRow_nil w1 _ _ _, below_alloc b1⟩
theorem i_ShortestPath (N : Int) (A : Option Addr) (n cap : Nat) (a b : Int) (ps : List (Int × Int)) (w : World) (h : RdP w A n ps) (hn : n ≤ 1099511627776) :
    Calls Try.prog 142 #[.agg #[.int .i64 N, .slice A n cap], .int .i64 a, .int .i64 b] w (Ret 3 1 (cellsI (spath ps N a b)) (spN ps N a b) w) := by
  rcases gd_sign ps N a b with hg | hg
  · have e1 : spath ps N a b = [] := by unfold spath; rw [hg]; rfl
    have e2 : spN ps N a b = 0 := by unfold spN; rw [hg]; rfl
    rw [e1, e2]
    exact i_ShortestPath_no N A n cap a b ps w h hn hg
  · obtain ⟨⟨d1, d2⟩, ⟨d3, d4⟩, d5, d6⟩ := gd_rng hg
    obtain ⟨N', rfl⟩ : ∃ N' : Nat, N = (N' : Int) := ⟨N.toNat, by omega⟩
    obtain ⟨a', rfl⟩ : ∃ a' : Nat, a = (a' : Int) := ⟨a.toNat, by omega⟩
    obtain ⟨b', rfl⟩ : ∃ b' : Nat, b = (b' : Int) := ⟨b.toNat, by omega⟩
    obtain ⟨D, hD⟩ : ∃ D : Nat, gd ps N' a' b' = (D : Int) := ⟨(gd ps N' a' b').toNat, by omega⟩
    have e1 : spath ps N' a' b' = (a' : Int) :: pS ps N' b' D a' := by unfold spath; rw [if_neg (by omega), hD]; rfl
    have e2 : spN ps N' a' b' = D + 1 := by unfold spN; rw [hD]; omega
    rw [e1, e2]
    exact i_path_in N' A n cap a' b' D ps w h hn (by omega) (by omega) (by omega) (by omega) hD
end Go.Proofs.Ytibhikngiceeeaa
