/- Contracts of Peephole (spec and impl). -/
import Derived.Test.YtjmgpgppammhhaaPeepI
namespace Go.Proofs.Ytjmgpgppammhhaa
open Go.RowKit

def peepN : Nat → List Gt → List Gt
  | 0, l => l
  | f + 1, l => if stepOk l then peepN f (stepL l) else l
def peepL (l : List Gt) : List Gt := peepN l.length l
theorem stepOk_nil {l : List Gt} (h : stepOk l = true) : 1 ≤ l.length := by have := step_len h; omega
theorem peepN_no {l : List Gt} (m : Nat) (h : stepOk l = false) : peepN m l = l := by cases m <;> simp [peepN, h]
theorem peepN_len : ∀ (m : Nat) (l : List Gt), (peepN m l).length ≤ l.length
  | 0, l => by simp [peepN]
  | m + 1, l => by
    unfold peepN
    split
    · rename_i h; have := peepN_len m (stepL l); have := step_len h; omega
    · exact Nat.le_refl _

set_option maxHeartbeats 800000 in
theorem s_Peephole (A : Option Addr) (n c : Nat) (l : List Gt) (w : World) (h : RdG w A n l) (hn : n ≤ 1099511627776) :
    Calls Try.prog 13 #[.slice A n c] w (Ret 33 4 (cellsG (peepL l)) (peepL l).length w) := by
  have H := Lib.hid h
  have hl := h.1
  have HR : Hid (peepN n l = peepL l) := Lib.hid (by rw [← hl]; rfl)
  have HL := Lib.hid hl
  clear h hl
  have OWN0 := Lib.hid (World.ownsRow_lit w #[] 0 (size := 4) (e := 33) (Nat.le_refl _) (by simp [maxLen]) rfl)
  go_enter Try.func13, Try.ntmps13
  go_wp2_with (at_builtin; refine wpList_app0 rfl (.tmp 6) (.tmp 7) 24 rfl Try.underlying24 infoGate rfl (by decide) rfl OWN0.out rfl (H.out.2.alloc _) one_cellsG (by omega) (by decide) (by simp) ?_; intro A2 c2 w2 o2 g2)
  have b2 : Below w.heap.size w w2 := below_grown ((Below.refl _ _).alloc (Nat.le_refl _) _) (by simp) OWN0.out (Nat.le_refl _) g2
  go_loopg [3] n (fun m v wr => ∃ (k : Nat) (x : List Gt) (A : Option Addr) (ca : Nat), x.length = k ∧ k ≤ m ∧ k ≤ n ∧ peepN m x = peepL l ∧ v = .slice A k ca ∧ wr.ownsRow w.heap.size 33 4 (.slice A k ca) k (cellsG x) ∧ Below w.heap.size w wr)
  case atStart => exact ⟨n, l, A2, c2, HL.out, Nat.le_refl _, Nat.le_refl _, HR.out, rfl, o2, b2⟩
  case round =>
    obtain ⟨k, x, A3, c3, hk, hkm, hkn, hp, rfl, o3, b3⟩ := hrel
    have HK := Lib.hid hk
    have HP := Lib.hid hp
    have O3 := Lib.hid o3
    clear hk hp o3 o2 b2 g2
    go_wp2_with fail
    refine (s_PeepholeStep _ _ _ x _ (RdG.own O3.out) (ownsRow_cap O3.out) (by omega)).mono ?_
    rintro e w4 ⟨A4, c4, rfl, o4, b4⟩
    have b04 := b3.trans (b4.mono b3.size)
    cases hs : stepOk x
    · have HS := Lib.hid (show x = peepL l by rw [← HP.out, peepN_no _ hs])
      have FIN := Lib.hid (show Ret 33 4 (cellsG (peepL l)) (peepL l).length w (.returned (.slice A3 k c3)) w4 from by
        rw [← HS.out, HK.out]; exact ⟨A3, c3, rfl, ownsRow_below O3.out b4, b04⟩)
      clear hs
      go_wp2_with fail
      go_ret
      exact FIN.out
    · have h1 := stepOk_nil hs
      have h2 := step_len hs
      have h3 := HK.out
      obtain ⟨m', rfl⟩ : ∃ m', gk = m' + 1 := ⟨gk - 1, by omega⟩
      have FIN := Lib.hid (show peepN m' (stepL x) = peepL l by rw [← HP.out, peepN, if_pos hs])
      have hle : (stepL x).length ≤ m' ∧ (stepL x).length ≤ n := by omega
      obtain ⟨j, hj⟩ : ∃ j, (stepL x).length = j := ⟨_, rfl⟩
      have HJ := Lib.hid hj
      rw [hj] at o4 hle
      rw [hj]
      clear hs h1 h2 h3 hj
      go_wp2_with fail
      go_roundg m'
      case measure => omega
      case rel => exact ⟨j, stepL x, A4, c4, HJ.out, hle.1, hle.2, FIN.out, rfl, ownsRow_base o4 b3.size, b04⟩

set_option maxHeartbeats 800000 in
theorem i_Peephole (A : Option Addr) (n c : Nat) (l : List Gt) (w : World) (h : RdG w A n l) (hn : n ≤ 1099511627776) :
    Calls Try.prog 11 #[.slice A n c] w (Ret 33 4 (cellsG (peepL l)) (peepL l).length w) := by
  have H := Lib.hid h
  have hl := h.1
  have HR : Hid (peepN n l = peepL l) := Lib.hid (by rw [← hl]; rfl)
  have HL := Lib.hid hl
  clear h hl
  go_enter Try.func11, Try.ntmps11
  go_wp2_with fail
  refine (i_copyGates _ _ _ _ _ H.out hn).mono ?_
  rintro e w2 ⟨A2, c2, rfl, o2, b2⟩
  go_wp2_with fail
  go_loopg [3] n (fun m v wr => ∃ (k : Nat) (x : List Gt) (A : Option Addr) (ca : Nat), x.length = k ∧ k ≤ m ∧ k ≤ n ∧ peepN m x = peepL l ∧ v = .slice A k ca ∧ wr.ownsRow w.heap.size 33 4 (.slice A k ca) k (cellsG x) ∧ Below w.heap.size w wr)
  case atStart => exact ⟨n, l, A2, c2, HL.out, Nat.le_refl _, Nat.le_refl _, HR.out, rfl, o2, b2⟩
  case round =>
    obtain ⟨k, x, A3, c3, hk, hkm, hkn, hp, rfl, o3, b3⟩ := hrel
    have HK := Lib.hid hk
    have HP := Lib.hid hp
    have O3 := Lib.hid o3
    clear hk hp o3 o2 b2
    go_wp2_with fail
    refine (i_PeepholeStep _ _ _ x _ (RdG.own O3.out) (ownsRow_cap O3.out) (by omega)).mono ?_
    rintro e w4 ⟨A4, c4, rfl, o4, b4⟩
    have b04 := b3.trans (b4.mono b3.size)
    cases hs : stepOk x
    · have HS := Lib.hid (show x = peepL l by rw [← HP.out, peepN_no _ hs])
      have FIN := Lib.hid (show Ret 33 4 (cellsG (peepL l)) (peepL l).length w (.returned (.slice A3 k c3)) w4 from by
        rw [← HS.out, HK.out]; exact ⟨A3, c3, rfl, ownsRow_below O3.out b4, b04⟩)
      clear hs
      go_wp2_with fail
      go_ret
      exact FIN.out
    · have h1 := stepOk_nil hs
      have h2 := step_len hs
      have h3 := HK.out
      obtain ⟨m', rfl⟩ : ∃ m', gk = m' + 1 := ⟨gk - 1, by omega⟩
      have FIN := Lib.hid (show peepN m' (stepL x) = peepL l by rw [← HP.out, peepN, if_pos hs])
      have hle : (stepL x).length ≤ m' ∧ (stepL x).length ≤ n := by omega
      obtain ⟨j, hj⟩ : ∃ j, (stepL x).length = j := ⟨_, rfl⟩
      have HJ := Lib.hid hj
      rw [hj] at o4 hle
      rw [hj]
      clear hs h1 h2 h3 hj
      go_wp2_with fail
      go_roundg m'
      case measure => omega
      case rel => exact ⟨j, stepL x, A4, c4, HJ.out, hle.1, hle.2, FIN.out, rfl, ownsRow_base o4 b3.size, b04⟩
end Go.Proofs.Ytjmgpgppammhhaa
