/- Contracts of SwapLayout (spec and impl). At most 2^40 numbers. -/
import Derived.Test.YtibhikngiceeeaaPerm
namespace Go.Proofs.Ytibhikngiceeeaa
open Go.RowKit

def sw (a b x : Int) : Int := if x = a then b else if x = b then a else x
def swapL (zs : List Int) (a b : Int) : List Int := if isPerm zs = true then zs.map (sw a b) else []
def swapN (zs : List Int) : Nat := if isPerm zs = true then zs.length else 0
theorem sw_a {a b x : Int} (h : (x == a) = true) : sw a b x = b := by unfold sw; rw [if_pos (by simpa using h)]
theorem sw_b {a b x : Int} (h : (x == a) = false) (h2 : (x == b) = true) : sw a b x = a := by unfold sw; rw [if_neg (by simpa using h), if_pos (by simpa using h2)]
theorem sw_n {a b x : Int} (h : (x == a) = false) (h2 : (x == b) = false) : sw a b x = x := by unfold sw; rw [if_neg (by simpa using h), if_neg (by simpa using h2)]
theorem swapN_len (zs : List Int) (a b : Int) : (swapL zs a b).length = swapN zs := by unfold swapL swapN; split <;> simp
theorem isPerm_len {zs : List Int} (h : isPerm zs = true) : 1 ≤ zs.length ∧ zs.length ≤ 4 := by
  unfold isPerm at h
  rw [Bool.and_eq_true, inB_iff] at h
  omega

set_option maxHeartbeats 1600000 in
theorem s_SwapLayout (A : Option Addr) (n cap : Nat) (zs : List Int) (a b : Int) (w : World) (h : RdI w A n zs) (hnc : n ≤ cap) (hn : n ≤ 1099511627776) :
    Calls Try.prog 150 #[.slice A n cap, .int .i64 a, .int .i64 b] w (Ret 3 1 (cellsI (swapL zs a b)) (swapN zs) w) := by
  have H := Lib.hid h
  clear h
  cases hp : isPerm zs
  · have HP := Lib.hid hp
    clear hp
    go_enter Try.func150, Try.ntmps150
    go_wp2_with fail
    go_loopg [7, 8] 0 (fun m v i wr => ∃ (A0 : Option Addr) (c0 : Nat), i = .int .i64 0 ∧ v = .slice A0 0 c0 ∧ wr.ownsRow w.heap.size 3 1 (.slice A0 0 c0) 0 [] ∧ Below w.heap.size w wr)
    case atStart => exact ⟨_, _, rfl, rfl, World.ownsRow_lit w #[] 0 (Nat.le_refl _) (by simp [maxLen]) rfl, (Below.refl _ _).alloc (Nat.le_refl _) _⟩
    case round =>
      obtain ⟨A0, c0, rfl, rfl, hown, hb⟩ := hrel
      go_wp2_with fail
      refine (s_IsPermutation _ _ _ _ _ (H.out.below hb) hnc hn).mono ?_
      rintro e w1 ⟨rfl, b1⟩
      rw [HP.out]
      go_wp2_with fail
      go_ret
      have e1 : swapL zs a b = [] := by simp [swapL, HP.out]
      have e2 : swapN zs = 0 := by simp [swapN, HP.out]
      rw [e1, e2]
      exact ⟨A0, c0, rfl, ownsRow_below hown b1, hb.trans (b1.mono hb.size)⟩
  · have HP := Lib.hid hp
    have hl4 := (isPerm_len hp).2
    clear hp
    have hn4 : n ≤ 4 := by have := H.out.1; omega
    clear hl4
    go_enter Try.func150, Try.ntmps150
    go_wp2_with fail
    go_loopg [7, 8] n (fun m v i wr => ∃ (k : Nat) (A0 : Option Addr) (c0 : Nat), k + m = n ∧ i = .int .i64 k ∧ v = .slice A0 k c0 ∧ wr.ownsRow w.heap.size 3 1 (.slice A0 k c0) k (cellsI ((zs.take k).map (sw a b))) ∧ Below w.heap.size w wr)
    case atStart => exact ⟨0, _, _, by omega, rfl, rfl, World.ownsRow_lit w #[] 0 (Nat.le_refl _) (by simp [maxLen]) rfl, (Below.refl _ _).alloc (Nat.le_refl _) _⟩
    case round =>
      obtain ⟨k, A0, c0, hk, rfl, rfl, hown, hb⟩ := hrel
      by_cases hlt : k < n
      · go_wp2_with fail
        refine (s_IsPermutation _ _ _ _ _ (H.out.below hb) hnc hn).mono ?_
        rintro e w1 ⟨rfl, b1⟩
        rw [HP.out]
        have hb1 := hb.trans (b1.mono hb.size)
        have OW := Lib.hid (ownsRow_below hown b1)
        have hsz := hb1.size
        clear b1 hb hown
        obtain ⟨bb, off, x, rfl, hB, hd, cc⟩ := (H.out.below hb1).at_ hlt
        have HD := Lib.hid hd
        clear hd
        by_cases h1 : (x == a) = true
        · go_wp2_with (at_builtin; refine wpList_app rfl (.tmp 33) (.tmp 35) 62 rfl Try.underlying62 infoInt rfl (by decide) rfl (OW.out.alloc _) rfl (Rd.lit _ 3 #[.int .i64 b] 1 1 rfl) (by simp [Value.oneCell']) (by omega) (by decide) (by simp <;> omega) ?_; intro A2 c2 w2 o2 g2)
          go_roundg (gk - 1)
          case measure => omega
          case rel =>
            refine ⟨k + 1, A2, c2, by omega, by go_num, rfl, ?_, below_grown (hb1.alloc hb1.size _) (by simp <;> omega) (OW.out.alloc _) (Nat.le_refl _) g2⟩
            rw [take_snoc HD.out, List.map_append, cellsI_append]
            have hv : sw a b x = b := sw_a h1
            simpa [cellsI, hv] using o2
        · have h1' : (x == a) = false := by simpa using h1
          clear h1
          by_cases h2 : (x == b) = true
          · go_wp2_with (at_builtin; refine wpList_app rfl (.tmp 33) (.tmp 35) 62 rfl Try.underlying62 infoInt rfl (by decide) rfl (OW.out.alloc _) rfl (Rd.lit _ 3 #[.int .i64 a] 1 1 rfl) (by simp [Value.oneCell']) (by omega) (by decide) (by simp <;> omega) ?_; intro A2 c2 w2 o2 g2)
            go_roundg (gk - 1)
            case measure => omega
            case rel =>
              refine ⟨k + 1, A2, c2, by omega, by go_num, rfl, ?_, below_grown (hb1.alloc hb1.size _) (by simp <;> omega) (OW.out.alloc _) (Nat.le_refl _) g2⟩
              rw [take_snoc HD.out, List.map_append, cellsI_append]
              have hv : sw a b x = a := sw_b h1' h2
              simpa [cellsI, hv] using o2
          · have h2' : (x == b) = false := by simpa using h2
            clear h2
            go_wp2_with (at_builtin; refine wpList_app rfl (.tmp 33) (.tmp 35) 62 rfl Try.underlying62 infoInt rfl (by decide) rfl (OW.out.alloc _) rfl (Rd.lit _ 3 #[.int .i64 x] 1 1 rfl) (by simp [Value.oneCell']) (by omega) (by decide) (by simp <;> omega) ?_; intro A2 c2 w2 o2 g2)
            go_roundg (gk - 1)
            case measure => omega
            case rel =>
              refine ⟨k + 1, A2, c2, by omega, by go_num, rfl, ?_, below_grown (hb1.alloc hb1.size _) (by simp <;> omega) (OW.out.alloc _) (Nat.le_refl _) g2⟩
              rw [take_snoc HD.out, List.map_append, cellsI_append]
              have hv : sw a b x = x := sw_n h1' h2'
              simpa [cellsI, hv] using o2
      · go_wp2_with fail
        refine (s_IsPermutation _ _ _ _ _ (H.out.below hb) hnc hn).mono ?_
        rintro e w1 ⟨rfl, b1⟩
        rw [HP.out]
        go_wp2_with fail
        go_ret
        have e0 := H.out.1
        obtain rfl : k = n := by omega
        have e1 : swapL zs a b = (zs.take k).map (sw a b) := by simp only [swapL, HP.out, if_true]; rw [List.take_of_length_le (by omega)]
        have e2 : swapN zs = k := by simp only [swapN, HP.out, if_true]; omega
        rw [e1, e2]
        exact ⟨A0, c0, rfl, ownsRow_below hown b1, hb.trans (b1.mono hb.size)⟩

set_option maxHeartbeats 1600000 in
theorem i_SwapLayout (A : Option Addr) (n cap : Nat) (zs : List Int) (a b : Int) (w : World) (h : RdI w A n zs) (hn : n ≤ 1099511627776) :
    Calls Try.prog 143 #[.slice A n cap, .int .i64 a, .int .i64 b] w (Ret 3 1 (cellsI (swapL zs a b)) (swapN zs) w) := by
  have H := Lib.hid h
  clear h
  cases hp : isPerm zs
  · have HP := Lib.hid hp
    clear hp
    go_enter Try.func143, Try.ntmps143
    go_wp2_with fail
    refine (i_IsPermutation _ _ _ _ _ H.out hn).mono ?_
    rintro e w1 ⟨rfl, b1⟩
    rw [HP.out]
    go_wp2_with fail
    go_ret
    have e1 : swapL zs a b = [] := by simp [swapL, HP.out]
    have e2 : swapN zs = 0 := by simp [swapN, HP.out]
    rw [e1, e2]
    exact ⟨none, 0, rfl, World.ownsRow_nil _ _ _ _, b1⟩
  · have HP := Lib.hid hp
    have hl4 := (isPerm_len hp).2
    clear hp
    have hn4 : n ≤ 4 := by have := H.out.1; omega
    clear hl4
    go_enter Try.func143, Try.ntmps143
    go_wp2_with fail
    refine (i_IsPermutation _ _ _ _ _ H.out hn).mono ?_
    rintro e w1 ⟨rfl, b1⟩
    rw [HP.out]
    have hs1 := b1.size
    go_wp2_with fail
    go_loopg [7, 16] n (fun m v i wr => ∃ (k : Nat) (A0 : Option Addr) (c0 : Nat), k + m = n ∧ i = .int .i64 k ∧ v = .slice A0 k c0 ∧ wr.ownsRow w.heap.size 3 1 (.slice A0 k c0) k (cellsI ((zs.take k).map (sw a b))) ∧ Below w.heap.size w wr)
    case atStart => exact ⟨0, _, _, by omega, rfl, rfl, World.ownsRow_lit w1 #[] 0 hs1 (by simp [maxLen]) rfl, b1.alloc hs1 _⟩
    case round =>
      obtain ⟨k, A0, c0, hk, rfl, rfl, hown, hb⟩ := hrel
      have OW := Lib.hid hown
      have hsz := hb.size
      clear hown
      by_cases hlt : k < n
      · obtain ⟨bb, off, x, rfl, hB, hd, cc⟩ := (H.out.below hb).at_ hlt
        have HD := Lib.hid hd
        clear hd
        by_cases h1 : (x == a) = true
        · go_wp2_with (at_builtin; refine wpList_app rfl (.tmp 28) (.tmp 30) 62 rfl Try.underlying62 infoInt rfl (by decide) rfl (OW.out.alloc _) rfl (Rd.lit _ 3 #[.int .i64 b] 1 1 rfl) (by simp [Value.oneCell']) (by omega) (by decide) (by simp <;> omega) ?_; intro A2 c2 w2 o2 g2)
          go_roundg (gk - 1)
          case measure => omega
          case rel =>
            refine ⟨k + 1, A2, c2, by omega, by go_num, rfl, ?_, below_grown (hb.alloc hb.size _) (by simp <;> omega) (OW.out.alloc _) (Nat.le_refl _) g2⟩
            rw [take_snoc HD.out, List.map_append, cellsI_append]
            have hv : sw a b x = b := sw_a h1
            simpa [cellsI, hv] using o2
        · have h1' : (x == a) = false := by simpa using h1
          clear h1
          by_cases h2 : (x == b) = true
          · go_wp2_with (at_builtin; refine wpList_app rfl (.tmp 35) (.tmp 37) 62 rfl Try.underlying62 infoInt rfl (by decide) rfl (OW.out.alloc _) rfl (Rd.lit _ 3 #[.int .i64 a] 1 1 rfl) (by simp [Value.oneCell']) (by omega) (by decide) (by simp <;> omega) ?_; intro A2 c2 w2 o2 g2)
            go_roundg (gk - 1)
            case measure => omega
            case rel =>
              refine ⟨k + 1, A2, c2, by omega, by go_num, rfl, ?_, below_grown (hb.alloc hb.size _) (by simp <;> omega) (OW.out.alloc _) (Nat.le_refl _) g2⟩
              rw [take_snoc HD.out, List.map_append, cellsI_append]
              have hv : sw a b x = a := sw_b h1' h2
              simpa [cellsI, hv] using o2
          · have h2' : (x == b) = false := by simpa using h2
            clear h2
            go_wp2_with (at_builtin; refine wpList_app rfl (.tmp 21) (.tmp 23) 62 rfl Try.underlying62 infoInt rfl (by decide) rfl (OW.out.alloc _) rfl (Rd.lit _ 3 #[.int .i64 x] 1 1 rfl) (by simp [Value.oneCell']) (by omega) (by decide) (by simp <;> omega) ?_; intro A2 c2 w2 o2 g2)
            go_roundg (gk - 1)
            case measure => omega
            case rel =>
              refine ⟨k + 1, A2, c2, by omega, by go_num, rfl, ?_, below_grown (hb.alloc hb.size _) (by simp <;> omega) (OW.out.alloc _) (Nat.le_refl _) g2⟩
              rw [take_snoc HD.out, List.map_append, cellsI_append]
              have hv : sw a b x = x := sw_n h1' h2'
              simpa [cellsI, hv] using o2
      · go_wp2_with fail
        go_ret
        have e0 := H.out.1
        obtain rfl : k = n := by omega
        have e1 : swapL zs a b = (zs.take k).map (sw a b) := by simp only [swapL, HP.out, if_true]; rw [List.take_of_length_le (by omega)]
        have e2 : swapN zs = k := by simp only [swapN, HP.out, if_true]; omega
        rw [e1, e2]
        exact ⟨A0, c0, rfl, OW.out, hb⟩
end Go.Proofs.Ytibhikngiceeeaa
