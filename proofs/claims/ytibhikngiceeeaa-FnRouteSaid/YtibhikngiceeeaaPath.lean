/- Contracts of ShortestPath (impl and spec). The graph has at most 2^40 edges. -/
import Derived.Test.YtibhikngiceeeaaPathP
import Derived.Test.YtibhikngiceeeaaBase
import Derived.Deep.RegionHeld3
import Derived.Deep.RegionWith
import Derived.Deep.DeepCutAuto
namespace Go.Proofs.Ytibhikngiceeeaa
open Go.RowKit

theorem near_f {ps : List (Int × Int)} {N b a : Int} {d : Nat} {k : Int} (h : coup ps a k = false) : nearer ps N b a d k = false := by unfold nearer; rw [h]; rfl
theorem near_g {ps : List (Int × Int)} {N b a : Int} {d : Nat} {k : Int} (h : gd ps N k b ≠ (d : Int)) : nearer ps N b a d k = false := by unfold nearer; rw [beq_eq_false_iff_ne.2 h, Bool.and_false]
theorem near_t {ps : List (Int × Int)} {N b a : Int} {d : Nat} {k : Int} (h : coup ps a k = true) (h2 : gd ps N k b = (d : Int)) : nearer ps N b a d k = true := by unfold nearer; rw [h, h2]; simp

set_option maxRecDepth 100000 in
set_option maxHeartbeats 3200000 in
theorem s_path_in (N : Nat) (A : Option Addr) (n cap : Nat) (a b D : Nat) (ps : List (Int × Int)) (w : World) (h : RdP w A n ps) (hn : n ≤ 1099511627776) (hN1 : 1 ≤ N) (hN4 : N ≤ 4) (ha : a < N) (hb : b < N) (hD : gd ps N a b = D) :
    Calls Try.prog 149 #[.agg #[.int .i64 N, .slice A n cap], .int .i64 a, .int .i64 b] w (Ret 3 1 (cellsI ((a : Int) :: pS ps N b D a)) (D + 1) w) := by
  have H := Lib.hid h
  have HD := Lib.hid hD
  have hD4 : D < 4 := by have := gd_lt ps N a b; omega
  clear h hD
  obtain ⟨R, hR⟩ : ∃ R, (a : Int) :: pS ps N b D a = R := ⟨_, rfl⟩
  have HR := Lib.hid hR
  rw [hR]
  clear hR
  have X0 := Lib.hid (Bx.new w 61 #[.int .i64 N, .slice A n cap])
  have E0 : Hid (((w.alloc (.cells #[.int .i64 N, .slice A n cap] 61)).alloc (.cells #[] 3)).ownsRow w.heap.size 3 1 (.slice (some ⟨w.heap.size + 1, 0, none⟩) 0 0) 0 []) := by
    have := World.ownsRow_lit (w.alloc (.cells #[.int .i64 N, .slice A n cap] 61)) #[] 0 (size := 1) (e := 3) (base := w.heap.size) (by simp) (by simp [maxLen]) rfl
    exact Lib.hid (by simpa using this)
  go_enter Try.func149, Try.ntmps149
  go_wp2_with fail
  refine (s_GraphDistance _ _ _ _ _ _ _ _ ((H.out.alloc _).alloc _) hn).mono ?_
  rintro e w1 ⟨rfl, b1⟩
  rw [HD.out]
  have O1 := Lib.hid (ownsRow_below E0.out b1)
  have X1 := Lib.hid ((X0.out.alloc (.cells #[] 3)).below b1)
  have b01 : Below w.heap.size w w1 := below_alloc (below_alloc b1)
  have hs1 := b01.size
  clear E0 X0 b1
  go_wp2_with (at_builtin; refine wpList_app rfl (.tmp 18) (.tmp 20) 62 rfl Try.underlying62 infoInt rfl (by decide) rfl (O1.out.alloc _) rfl (Rd.lit w1 3 #[.int .i64 a] 1 1 rfl) (by simp [Value.oneCell']) (by omega) (by decide) (by first | omega | (simp <;> omega)) ?_; intro A2 c2 w2 o2 g2)
  have b02 : Below w.heap.size w w2 := below_grown (b01.alloc b01.size _) (by have := b01.size; simp <;> omega) (O1.out.alloc _) (Nat.le_refl _) g2
  have X2 := Lib.hid (kept_app (O1.out.alloc _) g2 (X1.out.alloc _) (by decide))
  have O2 := Lib.hid o2
  clear o2 g2 O1 X1 b01
  go_loopg [1, 7, 8] D (fun m v1 v7 v8 wr => ∃ (cur : Nat) (o : List Int) (A7 : Option Addr) (c7 : Nat), v1 = .int .i64 cur ∧ v7 = .slice A7 o.length c7 ∧ v8 = .int .i64 m ∧ cur < N ∧ gd ps N cur b = m ∧ o ++ pS ps N b m cur = R ∧ wr.ownsRow w.heap.size 3 1 (.slice A7 o.length c7) o.length (cellsI o) ∧ Bx wr w.heap.size 61 #[.int .i64 N, .slice A n cap] ∧ Below w.heap.size w wr ∧ o.length + m = D + 1)
  case atStart => exact ⟨a, [(a : Int)], A2, c2, rfl, rfl, rfl, ha, HD.out, HR.out, by simpa [cellsI] using O2.out, X2.out, b02, by simp; omega⟩
  case round =>
    clear O2 X2 b02
    obtain ⟨cur, o, A7, c7, rfl, rfl, rfl, hcur, hg, hpath, hown, hx, hbw, hlen⟩ := hrel
    have HG := Lib.hid hg
    have HPth := Lib.hid hpath
    have OW := Lib.hid hown
    have HX := Lib.hid hx
    clear hg hpath hown hx
    obtain ⟨p0, p1, _, _⟩ := HX.out.two
    have hs0 := hbw.size
    rcases Nat.eq_zero_or_pos gk with h0 | h0
    · subst h0
      go_wp2_with fail
      go_ret
      have e1 : o = R := by have := HPth.out; rwa [pS, List.append_nil] at this
      rw [← e1]
      refine ⟨A7, c7, ?_, ?_, hbw⟩
      · rw [show D + 1 = o.length by omega]; rfl
      · rw [show D + 1 = o.length by omega]; exact OW.out
    · obtain ⟨d, rfl⟩ : ∃ d, gk = d + 1 := ⟨gk - 1, by omega⟩
      obtain ⟨x, hx1, hx2, hx3, hx4⟩ := nxt_ok hN1 hN4 hcur hb HG.out
      have HN := Lib.hid hx1
      have HG2 := Lib.hid hx4
      clear hx1 hx3 hx4
      go_wp2_with fail
      obtain ⟨wo, rfl⟩ : ∃ wo, wo = wr := ⟨_, rfl⟩
      go_loopg [1, 9] N (fun m v1 j wr => ∃ k : Nat, k + m = N ∧ v1 = .int .i64 cur ∧ j = .int .i64 k ∧ firstK (nearer ps N b cur d) N m = some (x : Int) ∧ Below wo.heap.size wo wr)
      case atStart => exact ⟨0, by omega, rfl, rfl, HN.out, Below.refl _ _⟩
      case round =>
        clear p0 p1
        obtain ⟨k, hk, rfl, rfl, hf, hb2⟩ := hrel
        have HF := Lib.hid hf
        clear hf
        have X3 := Lib.hid (HX.out.below hb2)
        obtain ⟨p0, p1, _, _⟩ := X3.out.two
        have HP := Lib.hid ((H.out.below hbw).below hb2)
        have hs2 := hb2.size
        by_cases hlt : k < N
        · have HS := Lib.hid (firstK_step (p := nearer ps N b cur d) hk hlt)
          cases h3 : coup ps cur k
          · have H3 := Lib.hid h3
            clear h3
            go_wp2_with fail
            refine (s_AreCoupled _ _ _ _ _ _ _ _ HP.out hn).mono ?_
            rintro e w3 ⟨rfl, b3⟩
            rw [H3.out]
            go_wp2_with fail
            go_roundg (gk - 1)
            case measure => omega
            case rel =>
              refine ⟨k + 1, by omega, rfl, by go_num, ?_, hb2.trans (b3.mono hs2)⟩
              rw [← HF.out, HS.out, near_f H3.out]; rfl
          · have H3 := Lib.hid h3
            clear h3
            go_wp2_with fail
            refine (s_AreCoupled _ _ _ _ _ _ _ _ HP.out hn).mono ?_
            rintro e w3 ⟨rfl, b3⟩
            rw [H3.out]
            clear p0 p1
            obtain ⟨p0, p1, _, _⟩ := (X3.out.below b3).two
            go_wp2_with fail
            refine (s_GraphDistance _ _ _ _ _ _ _ _ (HP.out.below b3) hn).mono ?_
            rintro e w4 ⟨rfl, b4⟩
            have b34 := below_trans b3 b4
            have b24 := hb2.trans (b34.mono hs2)
            by_cases h4 : gd ps N k b = (d : Int)
            · have hx5 : (k : Int) = x := by
                have := HF.out
                rw [HS.out, near_t H3.out h4, if_pos rfl] at this
                injection this
              obtain rfl : k = x := by omega
              rw [h4]
              have O4 := Lib.hid (ownsRow_below OW.out b24)
              have X4 := Lib.hid (HX.out.below b24)
              have b04 := hbw.trans (b24.mono hs0)
              have hs4 := b04.size
              clear b3 b4 b34 p0 p1
              go_wp2_with (at_builtin; refine wpList_app rfl (.tmp 45) (.tmp 47) 62 rfl Try.underlying62 infoInt rfl (by decide) rfl (O4.out.alloc _) rfl (Rd.lit w4 3 #[.int .i64 k] 1 1 rfl) (by simp [Value.oneCell']) (by omega) (by decide) (by first | omega | (simp <;> omega)) ?_; intro A5 c5 w5 o5 g5)
              go_roundg d
              case measure => omega
              case rel =>
                refine ⟨k, o ++ [(k : Int)], A5, c5, rfl, by simp, by go_num, hlt, HG2.out, ?_, by simpa [cellsI] using o5, kept_app (O4.out.alloc _) g5 (X4.out.alloc _) (by decide), below_grown (b04.alloc hs4 _) (by simp <;> omega) (O4.out.alloc _) (Nat.le_refl _) g5, by simp; omega⟩
                rw [List.append_assoc, ← HPth.out, pS_step HN.out]; rfl
            · have hc : ¬ (gd ps N k b == (d : Int)) = true := by simpa using h4
              obtain ⟨G, hG⟩ : ∃ G, gd ps N k b = G := ⟨_, rfl⟩
              rw [hG] at h4 ⊢
              clear hc
              go_wp2_with fail
              go_roundg (gk - 1)
              case measure => omega
              case rel =>
                refine ⟨k + 1, by omega, rfl, by go_num, ?_, b24⟩
                rw [← HF.out, HS.out, near_g (by rw [hG]; exact h4)]; rfl
        · obtain rfl : gk = 0 := by omega
          exact absurd HF.out (by simp [firstK])

theorem s_ShortestPath_no (N : Int) (A : Option Addr) (n cap : Nat) (a b : Int) (ps : List (Int × Int)) (w : World) (h : RdP w A n ps) (hn : n ≤ 1099511627776) (hD : gd ps N a b = -1) :
    Calls Try.prog 149 #[.agg #[.int .i64 N, .slice A n cap], .int .i64 a, .int .i64 b] w (Ret 3 1 (cellsI []) 0 w) := by
  have H := Lib.hid h
  have HD := Lib.hid hD
  clear h hD
  have E0 : Hid (((w.alloc (.cells #[.int .i64 N, .slice A n cap] 61)).alloc (.cells #[] 3)).ownsRow w.heap.size 3 1 (.slice (some ⟨w.heap.size + 1, 0, none⟩) 0 0) 0 []) := by
    have := World.ownsRow_lit (w.alloc (.cells #[.int .i64 N, .slice A n cap] 61)) #[] 0 (size := 1) (e := 3) (base := w.heap.size) (by simp) (by simp [maxLen]) rfl
    exact Lib.hid (by simpa using this)
  go_enter Try.func149, Try.ntmps149
  go_wp2_with fail
  refine (s_GraphDistance _ _ _ _ _ _ _ _ ((H.out.alloc _).alloc _) hn).mono ?_
  rintro e w1 ⟨rfl, b1⟩
  rw [HD.out]
  go_wp2_with fail
  go_ret
  exact ⟨_, _, rfl, ownsRow_below E0.out b1, below_alloc (below_alloc b1)⟩
def spN (ps : List (Int × Int)) (N a b : Int) : Nat := (gd ps N a b + 1).toNat
theorem s_ShortestPath (N : Int) (A : Option Addr) (n cap : Nat) (a b : Int) (ps : List (Int × Int)) (w : World) (h : RdP w A n ps) (hn : n ≤ 1099511627776) :
    Calls Try.prog 149 #[.agg #[.int .i64 N, .slice A n cap], .int .i64 a, .int .i64 b] w (Ret 3 1 (cellsI (spath ps N a b)) (spN ps N a b) w) := by
  rcases gd_sign ps N a b with hg | hg
  · have e1 : spath ps N a b = [] := by unfold spath; rw [hg]; rfl
    have e2 : spN ps N a b = 0 := by unfold spN; rw [hg]; rfl
    rw [e1, e2]
    exact s_ShortestPath_no N A n cap a b ps w h hn hg
  · obtain ⟨⟨d1, d2⟩, ⟨d3, d4⟩, d5, d6⟩ := gd_rng hg
    obtain ⟨N', rfl⟩ : ∃ N' : Nat, N = (N' : Int) := ⟨N.toNat, by omega⟩
    obtain ⟨a', rfl⟩ : ∃ a' : Nat, a = (a' : Int) := ⟨a.toNat, by omega⟩
    obtain ⟨b', rfl⟩ : ∃ b' : Nat, b = (b' : Int) := ⟨b.toNat, by omega⟩
    obtain ⟨D, hD⟩ : ∃ D : Nat, gd ps N' a' b' = (D : Int) := ⟨(gd ps N' a' b').toNat, by omega⟩
    have e1 : spath ps N' a' b' = (a' : Int) :: pS ps N' b' D a' := by unfold spath; rw [if_neg (by omega), hD]; rfl
    have e2 : spN ps N' a' b' = D + 1 := by unfold spN; rw [hD]; omega
    rw [e1, e2]
    exact s_path_in N' A n cap a' b' D ps w h hn (by omega) (by omega) (by omega) (by omega) hD
end Go.Proofs.Ytibhikngiceeeaa
