/- Contract of GraphDistance (impl). The graph has at most 2^40 edges. -/
import Derived.Test.YtibhikngiceeeaaGraphQ
import Derived.Test.YtibhikngiceeeaaBase
namespace Go.Proofs.Ytibhikngiceeeaa
open Go.RowKit

/-- The state of the loops: the graph's box, the row of distances. -/
def FarSt (w : World) (N : Nat) (A : Option Addr) (n cap : Nat) (f : List Int) (wr : World) : Prop :=
  Bx wr w.heap.size 61 #[.int .i64 N, .slice A n cap] ∧ Bx wr (w.heap.size + 1) 3 (cellsI f).toArray ∧ f.length = 4 ∧ Below w.heap.size w wr
theorem FarSt.below {w wr w' : World} {N : Nat} {A : Option Addr} {n cap : Nat} {f : List Int} (h : FarSt w N A n cap f wr) (hb : Below wr.heap.size wr w') : FarSt w N A n cap f w' :=
  ⟨h.1.below hb, h.2.1.below hb, h.2.2.1, h.2.2.2.trans (hb.mono h.2.2.2.size)⟩
theorem FarSt.set_ {w wr : World} {N : Nat} {A : Option Addr} {n cap : Nat} {f : List Int} (h : FarSt w N A n cap f wr) (k : Nat) (v : Int) : FarSt w N A n cap (f.set k v) (wr.setCell ⟨w.heap.size + 1, k, none⟩ (.int .i64 v)) :=
  ⟨h.1.far (by simp) _, set_list h.2.1 k v, by simpa using h.2.2.1, h.2.2.2.setCell (by simp) _⟩

set_option maxRecDepth 100000 in
set_option maxHeartbeats 3200000 in
theorem i_dist_in (N : Nat) (A : Option Addr) (n cap : Nat) (a b : Nat) (ps : List (Int × Int)) (w : World) (h : RdP w A n ps) (hn : n ≤ 1099511627776) (hN1 : 1 ≤ N) (hN4 : N ≤ 4) (ha : a < N) (hb : b < N) :
    Calls Try.prog 141 #[.agg #[.int .i64 N, .slice A n cap], .int .i64 a, .int .i64 b] w fun e w' => e = .returned (.int .i64 (gdI (mat ps) N a b)) ∧ Below w.heap.size w w' := by
  have H := Lib.hid h
  clear h
  obtain ⟨F, hF⟩ : ∃ F, farI (mat ps) N a = F := ⟨_, rfl⟩
  have HF := Lib.hid hF
  have HG : Hid (gdI (mat ps) N a b = F.getD b 0) := by rw [← hF]; rfl
  clear hF
  have hl : ([Value.int .i64 (-1), .int .i64 (-1), .int .i64 (-1), .int .i64 (-1)] : List Value)[a]? = some (.int .i64 (-1)) := by
    have : a = 0 ∨ a = 1 ∨ a = 2 ∨ a = 3 := by omega
    rcases this with rfl | rfl | rfl | rfl <;> rfl
  have ha0 : (a : Int) < 4 := by omega
  go_enter Try.func141, Try.ntmps141
  go_wp2_with fail
  refine (i_in _ _ _ _).mono ?_
  rintro e w' ⟨rfl, rfl⟩
  rw [inB_t (by omega) (by omega)]
  go_wp2_with fail
  refine (i_in _ _ _ _).mono ?_
  rintro e w' ⟨rfl, rfl⟩
  rw [inB_t (by omega) (by omega)]
  go_wp2_with fail
  refine (i_in _ _ _ _).mono ?_
  rintro e w' ⟨rfl, rfl⟩
  rw [inB_t (by omega) (by omega)]
  go_wp2_with fail
  go_loopg [8] N (fun m i wr => ∃ (s : Nat) (f : List Int), s + m = N ∧ i = .int .i64 s ∧ lS (mat ps) N m f = F ∧ FarSt w N A n cap f wr)
  case atStart =>
    refine ⟨0, [-1, -1, -1, -1].set a 0, by omega, rfl, ?_, (Bx.new w _ _).alloc _, ?_, by simp, ((Below.refl _ _).alloc (Nat.le_refl _) _).alloc (by simp) _⟩
    · rw [← HF.out]; simp [farI]
    · have := Bx.new (w.alloc (.cells #[.int .i64 N, .slice A n cap] 61)) 3 (cellsI ([-1, -1, -1, -1].set a 0)).toArray
      simpa [cellsI, List.map_set] using this
  case round =>
    clear hl
    obtain ⟨s, fo, hs, rfl, hS, st⟩ := hrel
    have HSs := Lib.hid hS
    have STo := Lib.hid st
    clear hS st
    obtain ⟨p0, p1, _, _⟩ := STo.out.1.two
    by_cases hslt : s < N
    · obtain ⟨F1, hF1⟩ : ∃ F1, lX (mat ps) N s N fo = F1 := ⟨_, rfl⟩
      have HF1 := Lib.hid hF1
      clear hF1
      go_wp2_with fail
      obtain ⟨wo, rfl⟩ : ∃ wo, wo = wr := ⟨_, rfl⟩
      obtain ⟨go, rfl⟩ : ∃ go, go = gk := ⟨_, rfl⟩
      go_loopg [9] N (fun m i wr => ∃ (x : Nat) (f : List Int), x + m = N ∧ i = .int .i64 x ∧ lX (mat ps) N s m f = F1 ∧ FarSt w N A n cap f wr)
      case atStart => exact ⟨0, fo, by omega, rfl, HF1.out, STo.out⟩
      case round =>
        clear p0 p1
        obtain ⟨x, fm, hx, rfl, hX, st⟩ := hrel
        have HX := Lib.hid hX
        have STm := Lib.hid st
        clear hX st
        obtain ⟨p0, p1, _, _⟩ := STm.out.1.two
        by_cases hxlt : x < N
        · obtain ⟨F2, hF2⟩ : ∃ F2, lY (mat ps) N s x N fm = F2 := ⟨_, rfl⟩
          have HF2 := Lib.hid hF2
          clear hF2
          go_wp2_with fail
          obtain ⟨wm, rfl⟩ : ∃ wm, wm = wr := ⟨_, rfl⟩
          obtain ⟨gm, rfl⟩ : ∃ gm, gm = gk := ⟨_, rfl⟩
          go_loopg [10] N (fun m i wr => ∃ (y : Nat) (f : List Int), y + m = N ∧ i = .int .i64 y ∧ lY (mat ps) N s x m f = F2 ∧ FarSt w N A n cap f wr)
          case atStart => exact ⟨0, fm, by omega, rfl, HF2.out, STm.out⟩
          case round =>
            clear p0 p1
            obtain ⟨y, f, hy, rfl, hY, st⟩ := hrel
            have HY := Lib.hid hY
            have ST := Lib.hid st
            clear hY st
            obtain ⟨p0, p1, _, _⟩ := ST.out.1.two
            have hflen := ST.out.2.2.1
            by_cases hlt : y < N
            · have HS := Lib.hid (lY_step (mat ps) N s x y gk f hy hlt)
              obtain ⟨fx, hfx⟩ : ∃ fx, f.getD x 0 = fx := ⟨_, rfl⟩
              obtain ⟨fy, hfy⟩ : ∃ fy, f.getD y 0 = fy := ⟨_, rfl⟩
              have cx : wr.cell? ⟨w.heap.size + 1, x, none⟩ = some (.int .i64 fx) := by rw [← hfx]; exact cell_list ST.out.2.1 (by omega)
              have cy : wr.cell? ⟨w.heap.size + 1, y, none⟩ = some (.int .i64 fy) := by rw [← hfy]; exact cell_list ST.out.2.1 (by omega)
              have HFX := Lib.hid hfx
              have HFY := Lib.hid hfy
              clear hfx hfy hflen
              have hx4 : (x : Int) < 4 := by omega
              have hy4 : (y : Int) < 4 := by omega
              by_cases h1 : (fx == (s : Int)) = true
              · by_cases h2 : fy < 0
                · have HP := Lib.hid (H.out.below ST.out.2.2.2)
                  have HM := Lib.hid (mat_at ps x y (by omega) (by omega))
                  cases h3 : coup ps x y
                  · have H3 := Lib.hid h3
                    clear h3
                    go_wp2_with fail
                    refine (i_AreCoupled _ _ _ _ _ _ _ _ HP.out hn).mono ?_
                    rintro e w2 ⟨rfl, b2⟩
                    rw [H3.out]
                    have ST2 := ST.out.below b2
                    go_wp2_with fail
                    go_roundg (gk - 1)
                    case measure => omega
                    case rel => exact ⟨y + 1, f, by omega, by go_num, by rw [← HY.out, HS.out, upd_no3 (by rw [HM.out]; exact H3.out)], ST2⟩
                  · have H3 := Lib.hid h3
                    clear h3
                    go_wp2_with fail
                    refine (i_AreCoupled _ _ _ _ _ _ _ _ HP.out hn).mono ?_
                    rintro e w2 ⟨rfl, b2⟩
                    rw [H3.out]
                    have ST2 := ST.out.below b2
                    have cy2 := cell_list ST2.2.1 (k := y) (by have := ST2.2.2.1; omega)
                    have fr2 := ST2.2.1.free y
                    go_wp2_with fail
                    go_roundg (gk - 1)
                    case measure => omega
                    case rel => exact ⟨y + 1, f.set y ((s : Int) + 1), by omega, by go_num, by rw [← HY.out, HS.out, upd_yes HFX.out h1 HFY.out h2 (by rw [HM.out]; exact H3.out)], ST2.set_ y _⟩
                · have h2' : 0 ≤ fy := by omega
                  clear h2
                  go_wp2_with fail
                  go_roundg (gk - 1)
                  case measure => omega
                  case rel => exact ⟨y + 1, f, by omega, by go_num, by rw [← HY.out, HS.out, upd_no2 HFY.out h2'], ST.out⟩
              · have h1' : (fx == (s : Int)) = false := by simpa using h1
                clear h1
                go_wp2_with fail
                go_roundg (gk - 1)
                case measure => omega
                case rel => exact ⟨y + 1, f, by omega, by go_num, by rw [← HY.out, HS.out, upd_no1 HFX.out h1'], ST.out⟩
            · go_wp2_with fail
              go_roundg (gm - 1)
              case measure => omega
              case rel =>
                obtain rfl : gk = 0 := by omega
                have e1 : f = F2 := HY.out
                refine ⟨x + 1, f, by omega, by go_num, ?_, ST.out⟩
                rw [← HX.out, lX_step (mat ps) N s x gm fm (by omega) hxlt, HF2.out, e1]
        · go_wp2_with fail
          go_roundg (go - 1)
          case measure => omega
          case rel =>
            obtain rfl : gk = 0 := by omega
            have e1 : fm = F1 := HX.out
            refine ⟨s + 1, fm, by omega, by go_num, ?_, STm.out⟩
            rw [← HSs.out, lS_step (mat ps) N s go fo (by omega) hslt, HF1.out, e1]
    · obtain rfl : gk = 0 := by omega
      have e1 : fo = F := HSs.out
      have hb4 : (b : Int) < 4 := by omega
      have cb := cell_list STo.out.2.1 (k := b) (by have := STo.out.2.2.1; omega)
      go_wp2_with fail
      go_ret
      exact ⟨ret_int (by rw [HG.out, ← e1]; simp), STo.out.2.2.2⟩
end Go.Proofs.Ytibhikngiceeeaa
