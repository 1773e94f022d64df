/- Contract of GraphDistance (spec). The graph has at most 2^40 edges. -/
import Derived.Test.YtibhikngiceeeaaGraphQ
import Derived.Test.YtibhikngiceeeaaBase
import Derived.StillTailTactics
import Derived.Deep.RegionHeld3
import Derived.Deep.RegionWith
import Derived.Deep.DeepCutAuto
namespace Go.Proofs.Ytibhikngiceeeaa
open Go.RowKit

theorem sK_step (l : List Bool) (n : Nat) (x : Int) (k m : Nat) (f : List Int) (h : k + m = n) (hk : k < n) : sK l n x m f = sK l n x (m - 1) (if (mAt l x k && !hasI0 f k) = true then f ++ [(k : Int)] else f) := by
  obtain ⟨j, rfl⟩ : ∃ j, m = j + 1 := ⟨m - 1, by omega⟩
  rw [sK, Nat.add_sub_cancel, show (n : Int) - ((j + 1 : Nat) : Int) = (k : Int) by omega]
theorem sK_range (l : List Bool) (n : Nat) (x : Int) (hn : n ≤ 4) : ∀ (m : Nat) (f : List Int), m ≤ n → (∀ z ∈ f, 0 ≤ z ∧ z < 4) → ∀ z ∈ sK l n x m f, 0 ≤ z ∧ z < 4
  | 0, f, _, h => h
  | m + 1, f, hm, h => by
    rw [sK]
    refine sK_range l n x hn m _ (by omega) ?_
    split
    · intro z hz
      rcases List.mem_append.1 hz with hz | hz
      · exact h z hz
      · simp at hz; omega
    · exact h
theorem sI_range (l : List Bool) (n : Nat) : ∀ (r f : List Int), n ≤ 4 → (∀ z ∈ r, 0 ≤ z ∧ z < 4) → (∀ z ∈ f, 0 ≤ z ∧ z < 4) → ∀ z ∈ sI l n r f, 0 ≤ z ∧ z < 4
  | [], f, _, _, h => h
  | x :: r, f, hn, hr, h => by
    rw [sI, Int.toNat_natCast]
    exact sI_range l n r _ hn (fun z hz => hr z (by simp [hz])) (sK_range l n x hn n f (Nat.le_refl _) h)
theorem sF_step (l : List Bool) (n : Nat) (b : Int) (s m : Nat) (met : List Int) (h : s + m = n) (hs : s < n) (hb : hasI0 met b = false) : sF l n b m met = sF l n b (m - 1) (sI l n met met) := by
  obtain ⟨j, rfl⟩ : ∃ j, m = j + 1 := ⟨m - 1, by omega⟩
  rw [sF, Nat.add_sub_cancel, if_neg (by simp [hb])]
theorem sF_hit (l : List Bool) (n : Nat) (b : Int) (s m : Nat) (met : List Int) (h : s + m = n) (hs : s < n) (hb : hasI0 met b = true) : sF l n b m met = (s : Int) := by
  obtain ⟨j, rfl⟩ : ∃ j, m = j + 1 := ⟨m - 1, by omega⟩
  rw [sF, if_pos hb]; omega

set_option maxRecDepth 100000 in
set_option maxHeartbeats 6400000 in
theorem s_dist_in (N : Nat) (A : Option Addr) (n cap : Nat) (a b : Nat) (ps : List (Int × Int)) (w : World) (h : RdP w A n ps) (hn : n ≤ 1099511627776) (hN1 : 1 ≤ N) (hN4 : N ≤ 4) (ha : a < N) (hb : b < N) :
    Calls Try.prog 148 #[.agg #[.int .i64 N, .slice A n cap], .int .i64 a, .int .i64 b] w fun e w' => e = .returned (.int .i64 (gdS (mat ps) N a b)) ∧ Below w.heap.size w w' := by
  have H := Lib.hid h
  clear h
  obtain ⟨R, hR⟩ : ∃ R, gdS (mat ps) N a b = R := ⟨_, rfl⟩
  have HR := Lib.hid hR
  have HR0 : Hid (sF (mat ps) N b N [(a : Int)] = R) := by rw [← hR]; rfl
  clear hR
  go_enter Try.func148, Try.ntmps148
  go_wp2_with fail
  refine (s_in _ _ _ _).mono ?_
  rintro e w' ⟨rfl, rfl⟩
  rw [inB_t (by omega) (by omega)]
  go_wp2_with fail
  refine (s_in _ _ _ _).mono ?_
  rintro e w' ⟨rfl, rfl⟩
  rw [inB_t (by omega) (by omega)]
  go_wp2_with fail
  refine (s_in _ _ _ _).mono ?_
  rintro e w' ⟨rfl, rfl⟩
  rw [inB_t (by omega) (by omega)]
  go_wp2_with fail
  go_loopg [7, 8] N (fun m v i wr => ∃ (s : Nat) (met : List Int) (A7 : Option Addr) (c7 : Nat), s + m = N ∧ i = .int .i64 s ∧ v = .slice A7 met.length c7 ∧ sF (mat ps) N b m met = R ∧ wr.ownsRow w.heap.size 3 1 (.slice A7 met.length c7) met.length (cellsI met) ∧ (∀ z ∈ met, 0 ≤ z ∧ z < 4) ∧ Bx wr w.heap.size 61 #[.int .i64 N, .slice A n cap] ∧ Below w.heap.size w wr ∧ met.length ≤ 5 ^ s)
  case atStart =>
    refine ⟨0, [(a : Int)], _, _, by omega, rfl, rfl, HR0.out, ?_, by simp; omega, (Bx.new w _ _).alloc _, ((Below.refl _ _).alloc (Nat.le_refl _) _).alloc (by simp) _, by simp⟩
    have := World.ownsRow_lit (w.alloc (.cells #[.int .i64 N, .slice A n cap] 61)) #[.int .i64 a] 1 (size := 1) (e := 3) (base := w.heap.size) (by simp) (by simp [maxLen]) rfl
    simpa [cellsI] using this
  case round =>
    obtain ⟨s, met, A7, c7, hs, rfl, rfl, hS, hown, hr4, hbx, hb0, hml⟩ := hrel
    have HSs := Lib.hid hS
    have OM := Lib.hid hown
    have HR4 := Lib.hid hr4
    have HBX := Lib.hid hbx
    clear hS hown hr4 hbx
    obtain ⟨p0, p1, _, _⟩ := HBX.out.two
    by_cases hslt : s < N
    · have h5 : 5 ^ s ≤ 125 := by
        have : 5 ^ s ≤ 5 ^ 3 := Nat.pow_le_pow_right (by omega) (by omega)
        omega
      have hml2 : met.length ≤ 125 := by omega
      cases hh : hasI met b
      · have HH := Lib.hid hh
        have HNB : Hid (hasI0 met b = false) := hh
        clear hh
        obtain ⟨F1, hF1⟩ : ∃ F1, sI (mat ps) N met met = F1 := ⟨_, rfl⟩
        have HF1 := Lib.hid hF1
        clear hF1
        go_wp2_with fail
        refine (s_hasI _ _ _ met _ _ (RdI.own OM.out) (by omega)).mono ?_
        rintro e w' ⟨rfl, rfl⟩
        rw [HH.out]
        have E0 := Lib.hid (World.ownsRow_lit wr #[] 0 (size := 1) (e := 3) (base := wr.heap.size) (Nat.le_refl _) (by simp [maxLen]) rfl)
        go_wp2_with (at_builtin; refine wpList_app rfl (.tmp 44) (.tmp 45) 62 rfl Try.underlying62 infoInt rfl (by decide) rfl E0.out rfl (Rd.own (OM.out.alloc _)) one_cellsI (by omega) (by decide) (by simp) ?_; intro A5 c5 w5 o5 g5)
        have bz : Below wr.heap.size wr w5 := below_grown ((Below.refl _ _).alloc (Nat.le_refl _) _) (by simp) E0.out (Nat.le_refl _) g5
        simp only [Nat.zero_add, List.nil_append] at o5
        have O5 := Lib.hid o5
        clear o5 g5 E0
        obtain ⟨wo, rfl⟩ : ∃ wo, wo = wr := ⟨_, rfl⟩
        obtain ⟨go, rfl⟩ : ∃ go, go = gk := ⟨_, rfl⟩
        go_loopg [9, 10] met.length (fun m v j wr => ∃ (i : Nat) (nm : List Int) (A9 : Option Addr) (c9 : Nat), i + m = met.length ∧ j = .int .i64 i ∧ v = .slice A9 nm.length c9 ∧ sI (mat ps) N (met.drop i) nm = F1 ∧ wr.ownsRow wo.heap.size 3 1 (.slice A9 nm.length c9) nm.length (cellsI nm) ∧ Below wo.heap.size wo wr ∧ nm.length ≤ met.length + 4 * i)
        case atStart => exact ⟨0, met, A5, c5, by omega, rfl, rfl, HF1.out, O5.out, bz, by omega⟩
        case round =>
          clear p0 p1
          obtain ⟨i, nm, A9, c9, hi, rfl, rfl, hI, hown, hbo, hlen⟩ := hrel
          have HI := Lib.hid hI
          have OWm := Lib.hid hown
          clear hI hown
          have HXm := Lib.hid (HBX.out.below hbo)
          obtain ⟨p0, p1, _, _⟩ := HXm.out.two
          have hs1 := hbo.size
          by_cases hilt : i < met.length
          · obtain ⟨bm, om, x, hA7, hBm, hd, cm0⟩ := (RdI.own OM.out).at_ hilt
            subst hA7
            have HD := Lib.hid hd
            have hxm : x ∈ met := List.mem_of_mem_drop (by rw [hd]; simp)
            have hxr := HR4.out x hxm
            obtain ⟨xn, hxe⟩ : ∃ xn : Nat, x = (xn : Int) := ⟨x.toNat, by omega⟩
            have hxn : xn < 4 := by omega
            obtain ⟨F2, hF2⟩ : ∃ F2, sK (mat ps) N x N nm = F2 := ⟨_, rfl⟩
            have HF2 := Lib.hid hF2
            have HXE := Lib.hid hxe
            clear hF2 hd hxm hxr hxe
            go_wp2_with fail
            obtain ⟨wm, rfl⟩ : ∃ wm, wm = wr := ⟨_, rfl⟩
            obtain ⟨gm, rfl⟩ : ∃ gm, gm = gk := ⟨_, rfl⟩
            go_loopg [9, 11] N (fun m v j wr => ∃ (k : Nat) (nx : List Int) (A9 : Option Addr) (c9 : Nat), k + m = N ∧ j = .int .i64 k ∧ v = .slice A9 nx.length c9 ∧ sK (mat ps) N x m nx = F2 ∧ wr.ownsRow wo.heap.size 3 1 (.slice A9 nx.length c9) nx.length (cellsI nx) ∧ Below wo.heap.size wo wr ∧ nx.length ≤ met.length + 4 * i + k)
            case atStart => exact ⟨0, nm, A9, c9, by omega, rfl, rfl, HF2.out, OWm.out, hbo, by omega⟩
            case round =>
              have hxe := HXE.out
              have HXE2 := Lib.hid hxe
              clear p0 p1 hxe
              obtain ⟨k, nx, A9, c9, hk, rfl, rfl, hK, hown, hbo, hlen⟩ := hrel
              have HK := Lib.hid hK
              have OW := Lib.hid hown
              clear hK hown
              have HX1 := Lib.hid (HBX.out.below hbo)
              obtain ⟨p0, p1, _, _⟩ := HX1.out.two
              have hs1 := hbo.size
              by_cases hlt : k < N
              · have HS := Lib.hid (sK_step (mat ps) N x k gk nx hk hlt)
                have cm : wr.cell? ⟨bm, om + i, none⟩ = some (.int .i64 x) := (hbo.cell (p := ⟨bm, om + i, none⟩) hBm).trans cm0
                have HP := Lib.hid (((H.out.below hb0).below hbo).drew)
                have hi0 : (0 : Int) ≤ (i : Int) := by omega
                have hi1 : (i : Int) < (met.length : Int) := by omega
                have HM := Lib.hid (mat_at ps xn k hxn (by omega))
                cases h3 : coup ps x k
                · have H3 := Lib.hid h3
                  clear h3
                  go_upto_region 16 with fail
                  go_cut [71] (fun s71 wx => s71 = .bool false ∧ Below wr.heap.size wr wx)
                  case first =>
                    first
                    | go_region_with (go_at_call 168; refine (s_AreCoupled _ _ _ _ _ _ _ _ HP.out hn).mono ?_; rintro e w2 ⟨rfl, b2⟩; rw [H3.out])
                    | fail "region"
                    all_goals go_wp2_with fail
                    all_goals go_meet
                    all_goals exact ⟨rfl, below_drew b2⟩
                  case rest =>
                    obtain ⟨rfl, b2⟩ := hcut
                    go_wp2_with fail
                    go_roundg (gk - 1)
                    case measure => omega
                    case rel =>
                      refine ⟨k + 1, nx, A9, c9, by omega, by go_num, rfl, ?_, ownsRow_below OW.out b2, hbo.trans (b2.mono hs1), by omega⟩
                      rw [← HK.out, HS.out, if_neg]
                      rw [HXE.out, HM.out, ← HXE.out, H3.out]; simp
                · have H3 := Lib.hid h3
                  clear h3
                  cases h4 : hasI nx k
                  · have H4 := Lib.hid h4
                    clear h4
                    go_wp2_with fail
                    go_region_held3 (fun w' => w'.cell? ⟨w.heap.size, 0, none⟩ = some (.int .i64 N) ∧ w'.cell? ⟨w.heap.size, 1, none⟩ = some (.slice A n cap) ∧ w'.cell? ⟨bm, om + i, none⟩ = some (.int .i64 x))
                      (first | go_keep)
                      (first
                        | (go_at_call 168; refine (s_AreCoupled _ _ _ _ _ _ _ _ HP.out hn).mono ?_; rintro e w2 ⟨rfl, b2⟩; rw [H3.out]; have o2 := ownsRow_below (ownsRow_drew OW.out) b2; have k0 := b2.cell (p := ⟨w.heap.size, 0, none⟩) HX1.out.lt; have k1 := b2.cell (p := ⟨w.heap.size, 1, none⟩) HX1.out.lt; have k2 := b2.cell (p := ⟨bm, om + i, none⟩) (by simp <;> omega))
                        | (go_at_call 45; refine (s_hasI _ _ _ nx _ _ (RdI.own o2) (by omega)).mono ?_; rintro e w3 ⟨rfl, rfl⟩; rw [H4.out]))
                    have b02 := hbo.drew.trans (b2.mono hs1)
                    have hs2 := b02.size
                    have O2 := Lib.hid o2
                    clear o2 k0 k1 k2
                    go_wp2_with (at_builtin; refine wpList_app rfl (.tmp 72) (.tmp 74) 62 rfl Try.underlying62 infoInt rfl (by decide) rfl (O2.out.alloc _) rfl (Rd.lit w2 3 #[.int .i64 k] 1 1 rfl) (by simp [Value.oneCell']) (by omega) (by decide) (by first | omega | (simp <;> omega)) ?_; intro A5 c5 w5 o5 g5)
                    go_roundg (gk - 1)
                    case measure => omega
                    case rel =>
                      refine ⟨k + 1, nx ++ [(k : Int)], A5, c5, by omega, by go_num, by simp, ?_, by simpa [cellsI] using o5, below_grown (b02.alloc hs2 _) (by simp <;> omega) (O2.out.alloc _) (Nat.le_refl _) g5, by simp; omega⟩
                      rw [← HK.out, HS.out, if_pos]
                      rw [HXE.out, HM.out, ← HXE.out, H3.out, show hasI0 nx k = hasI nx k from rfl, H4.out]; rfl
                  · have H4 := Lib.hid h4
                    clear h4
                    go_wp2_with fail
                    go_region_held3 (fun w' => w'.cell? ⟨w.heap.size, 0, none⟩ = some (.int .i64 N) ∧ w'.cell? ⟨w.heap.size, 1, none⟩ = some (.slice A n cap) ∧ w'.cell? ⟨bm, om + i, none⟩ = some (.int .i64 x))
                      (first | go_keep)
                      (first
                        | (go_at_call 168; refine (s_AreCoupled _ _ _ _ _ _ _ _ HP.out hn).mono ?_; rintro e w2 ⟨rfl, b2⟩; rw [H3.out]; have o2 := ownsRow_below (ownsRow_drew OW.out) b2; have k0 := b2.cell (p := ⟨w.heap.size, 0, none⟩) HX1.out.lt; have k1 := b2.cell (p := ⟨w.heap.size, 1, none⟩) HX1.out.lt; have k2 := b2.cell (p := ⟨bm, om + i, none⟩) (by simp <;> omega))
                        | (go_at_call 45; refine (s_hasI _ _ _ nx _ _ (RdI.own o2) (by omega)).mono ?_; rintro e w3 ⟨rfl, rfl⟩; rw [H4.out]))
                    go_wp2_with fail
                    go_roundg (gk - 1)
                    case measure => omega
                    case rel =>
                      refine ⟨k + 1, nx, A9, c9, by omega, by go_num, rfl, ?_, o2, hbo.drew.trans (b2.mono hs1), by omega⟩
                      rw [← HK.out, HS.out, if_neg]
                      rw [show hasI0 nx k = hasI nx k from rfl, H4.out]; simp
              · go_wp2_with fail
                go_roundg (gm - 1)
                case measure => omega
                case rel =>
                  obtain rfl : gk = 0 := by omega
                  have e1 : nx = F2 := HK.out
                  refine ⟨i + 1, nx, A9, c9, by omega, by go_num, rfl, ?_, OW.out, hbo, by omega⟩
                  rw [← HI.out, HD.out, sI, Int.toNat_natCast, HF2.out, e1]
          · go_wp2_with fail
            go_roundg (go - 1)
            case measure => omega
            case rel =>
              have e1 : nm = F1 := by rw [← HI.out, List.drop_eq_nil_of_le (by omega)]; rfl
              refine ⟨s + 1, nm, A9, c9, by omega, by go_num, rfl, ?_, ownsRow_base OWm.out hb0.size, ?_, HXm.out, hb0.trans (hbo.mono hb0.size), by rw [Nat.pow_succ]; omega⟩
              · rw [← HSs.out, sF_step (mat ps) N b s go met (by omega) hslt HNB.out, HF1.out, e1]
              · rw [e1, ← HF1.out]; exact sI_range _ _ _ _ hN4 HR4.out HR4.out
      · have HH := Lib.hid hh
        have HNB : Hid (hasI0 met b = true) := hh
        clear hh
        go_wp2_with fail
        refine (s_hasI _ _ _ met _ _ (RdI.own OM.out) (by omega)).mono ?_
        rintro e w' ⟨rfl, rfl⟩
        rw [HH.out]
        go_wp2_with fail
        go_ret
        exact ⟨ret_int (by rw [HR.out, ← HSs.out, sF_hit (mat ps) N b s gk met (by omega) hslt HNB.out]), hb0⟩
    · obtain rfl : gk = 0 := by omega
      go_wp2_with fail
      go_ret
      exact ⟨ret_int (by rw [HR.out, ← HSs.out]; rfl), hb0⟩
end Go.Proofs.Ytibhikngiceeeaa
