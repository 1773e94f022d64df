/- Contracts of ChooseLayout (impl and spec). At most 2^40 gates and edges. -/
import Derived.Test.YtgnallcfahpjmaaRPermJ
import Derived.Test.YtgnallcfahpjmaaRLay
import Derived.StillTailTactics
namespace Go.Proofs.YtgnallcfahpjmaaR
open Go.RowKit

def pick (f : List Int → Int) : List (List Int) → List Int → Int → List Int
  | [], best, _ => best
  | p :: r, best, least => if 0 ≤ f p ∧ (least < 0 ∨ f p < least) then pick f r p (f p) else pick f r best least
def choose (ps : List (Int × Int)) (N : Int) (gs : List Gt) : List Int := pick (fun z => layCost ps N z gs) (perms N) [] (-1)
theorem pick_take {f : List Int → Int} {p best : List Int} {r : List (List Int)} {least c : Int} (hc : f p = c) (h0 : 0 ≤ c) (h : least < 0 ∨ c < least) : pick f (p :: r) best least = pick f r p c := by
  rw [pick, hc, if_pos ⟨h0, h⟩]
theorem pick_leave {f : List Int → Int} {p best : List Int} {r : List (List Int)} {least c : Int} (hc : f p = c) (h : c < 0 ∨ (0 ≤ least ∧ least ≤ c)) : pick f (p :: r) best least = pick f r best least := by
  rw [pick, hc, if_neg (by omega)]

set_option maxRecDepth 100000 in
set_option maxHeartbeats 3200000 in
theorem i_ChooseLayout (A : Option Addr) (n cap : Nat) (gs : List Gt) (N : Int) (B : Option Addr) (m d : Nat) (ps : List (Int × Int)) (w : World) (h : RdG w A n gs) (hn : n ≤ 1099511627776) (hp : RdP w B m ps) (hm : m ≤ 1099511627776) :
    Calls Try.prog 37 #[.slice A n cap, .agg #[.int .i64 N, .slice B m d]] w (Ret 3 1 (cellsI (choose ps N gs)) (choose ps N gs).length w) := by
  have H := Lib.hid h
  have HP := Lib.hid hp
  clear h hp
  have X0 := Lib.hid (Bx.new w 41 #[.int .i64 N, .slice B m d])
  obtain ⟨R, hR⟩ : ∃ R, choose ps N gs = R := ⟨_, rfl⟩
  rw [hR]
  have HR : Hid (pick (fun z => layCost ps N z gs) (perms N) [] (-1) = R) := Lib.hid hR
  clear hR
  obtain ⟨l, hl⟩ : ∃ l, perms N = l := ⟨_, rfl⟩
  have HL := Lib.hid hl
  have hle := perms_le N
  have HROW := Lib.hid (show ∀ x ∈ l, x.length ≤ 4 from fun x hx => (perms_row N x (by rw [hl]; exact hx)).2)
  rw [hl] at hle HR
  obtain ⟨q, hq⟩ : ∃ q, l.length = q := ⟨_, rfl⟩
  rw [hq] at hle
  have HQ := Lib.hid hq
  clear hl hq
  go_enter Try.func37, Try.ntmps37
  go_wp2_with fail
  refine (i_AllPermutations _ _).mono ?_
  rintro e w1 ⟨A1, c1, rfl, o1, b1⟩
  rw [HL.out] at o1 ⊢
  rw [HQ.out] at o1 ⊢
  have X1 := Lib.hid (X0.out.below b1)
  have b01 := below_alloc b1
  have O1 := Lib.hid (o1.base_ (base' := w.heap.size) (by simp))
  clear b1 o1 X0
  go_wp2_with fail
  go_loopg [5, 6, 14] q (fun r v s i wr => ∃ (k : Nat) (best : List Int) (least : Int) (A0 : Option Addr) (n0 c0 : Nat), k + r = q ∧ i = .int .i64 k ∧ v = .slice A0 n0 c0 ∧ s = .int .i64 least ∧ n0 = best.length ∧ wr.ownsRow w.heap.size 3 1 (.slice A0 n0 c0) n0 (cellsI best) ∧ pick (fun z => layCost ps N z gs) (l.drop k) best least = R ∧ Below w1.heap.size w1 wr)
  case atStart => exact ⟨0, [], -1, none, 0, 0, by omega, rfl, rfl, rfl, rfl, World.ownsRow_nil _ _ _ _, HR.out, Below.refl _ _⟩
  case round =>
    obtain ⟨k, best, least, A0, n0, c0, hk, rfl, rfl, rfl, hn0, ho, hpk, hb⟩ := hrel
    have HN0 := Lib.hid hn0
    have HO := Lib.hid ho
    have HPK := Lib.hid hpk
    have X2 := Lib.hid (X1.out.below hb)
    have b02 := below_trans b01 hb
    clear hn0 ho hpk
    obtain ⟨p0, p1, _, _⟩ := X2.out.two
    by_cases hlt : k < q
    · obtain ⟨g, ca, x, D, dc, hv, hd, cc, _, ox, _⟩ := OwnSS.at_ (by decide) (O1.out.below hb) (k := k) (by rw [HQ.out]; omega)
      rw [HQ.out] at hv
      injection hv with hv1 _ hv3
      subst hv1 hv3
      have hx4 := HROW.out x (List.mem_of_mem_drop (i := k) (by rw [hd]; simp))
      have HD := Lib.hid hd
      obtain ⟨nx, hnx⟩ : ∃ nx, x.length = nx := ⟨_, rfl⟩
      rw [hnx] at cc hx4 ox
      have OX := Lib.hid ox
      have HNX := Lib.hid hnx
      clear hd hnx ox
      obtain ⟨cst, hc⟩ : ∃ cst, layCost ps N x gs = cst := ⟨_, rfl⟩
      have HC := Lib.hid hc
      clear hc
      have hi1 : (k : Int) < (q : Int) := by omega
      go_wp2_with fail
      refine (i_LayoutCost _ _ _ _ _ _ _ _ _ _ _ _ x _ (H.out.below b02) hn (HP.out.below b02) hm (RdI.own OX.out) (by omega)).mono ?_
      rintro e w3 ⟨rfl, b3⟩
      rw [HC.out]
      have O3 := Lib.hid (ownsRow_below HO.out b3)
      have OX3 := Lib.hid (ownsRow_below OX.out b3)
      have hb3 := below_trans hb b3
      clear b3 HO OX X2 p0 p1 cc hb b02
      by_cases hc0 : 0 ≤ cst
      · by_cases hl0 : least < 0
        · go_wp2_with fail
          go_roundg (gk - 1)
          case measure => omega
          case rel => exact ⟨k + 1, x, cst, D, nx, dc, by omega, by go_num, rfl, rfl, HNX.out.symm, OX3.out, by rw [← HPK.out, HD.out, pick_take HC.out hc0 (.inl hl0)], hb3⟩
        · by_cases hl1 : cst < least
          · go_wp2_with fail
            go_roundg (gk - 1)
            case measure => omega
            case rel => exact ⟨k + 1, x, cst, D, nx, dc, by omega, by go_num, rfl, rfl, HNX.out.symm, OX3.out, by rw [← HPK.out, HD.out, pick_take HC.out hc0 (.inr hl1)], hb3⟩
          · go_wp2_with fail
            go_roundg (gk - 1)
            case measure => omega
            case rel => exact ⟨k + 1, best, least, A0, n0, c0, by omega, by go_num, rfl, rfl, HN0.out, O3.out, by rw [← HPK.out, HD.out, pick_leave HC.out (.inr ⟨by omega, by omega⟩)], hb3⟩
      · go_wp2_with fail
        go_roundg (gk - 1)
        case measure => omega
        case rel => exact ⟨k + 1, best, least, A0, n0, c0, by omega, by go_num, rfl, rfl, HN0.out, O3.out, by rw [← HPK.out, HD.out, pick_leave HC.out (.inl (by omega))], hb3⟩
    · go_wp2_with fail
      go_ret
      have hR : best = R := by
        rw [← HPK.out, List.drop_eq_nil_of_le (by rw [HQ.out]; omega), pick]
      subst hR
      have e0 := HN0.out
      subst e0
      exact ⟨A0, c0, rfl, HO.out, b02⟩

set_option maxRecDepth 100000 in
set_option maxHeartbeats 3200000 in
theorem s_ChooseLayout (A : Option Addr) (n cap : Nat) (gs : List Gt) (N : Int) (B : Option Addr) (m d : Nat) (ps : List (Int × Int)) (w : World) (h : RdG w A n gs) (hn : n ≤ 1099511627776) (hp : RdP w B m ps) (hm : m ≤ 1099511627776) :
    Calls Try.prog 38 #[.slice A n cap, .agg #[.int .i64 N, .slice B m d]] w (Ret 3 1 (cellsI (choose ps N gs)) (choose ps N gs).length w) := by
  have H := Lib.hid h
  have HP := Lib.hid hp
  clear h hp
  have X0 := Lib.hid ((Bx.new w 41 #[.int .i64 N, .slice B m d]).alloc (.cells #[] 3))
  obtain ⟨R, hR⟩ : ∃ R, choose ps N gs = R := ⟨_, rfl⟩
  rw [hR]
  have HR : Hid (pick (fun z => layCost ps N z gs) (perms N) [] (-1) = R) := Lib.hid hR
  clear hR
  obtain ⟨l, hl⟩ : ∃ l, perms N = l := ⟨_, rfl⟩
  have HL := Lib.hid hl
  have hle := perms_le N
  have HROW := Lib.hid (show ∀ x ∈ l, x.length ≤ 4 from fun x hx => (perms_row N x (by rw [hl]; exact hx)).2)
  rw [hl] at hle HR
  obtain ⟨q, hq⟩ : ∃ q, l.length = q := ⟨_, rfl⟩
  rw [hq] at hle
  have HQ := Lib.hid hq
  clear hl hq
  have E0 := Lib.hid (show ((w.alloc (.cells #[.int .i64 N, .slice B m d] 41)).alloc (.cells #[] 3)).ownsRow w.heap.size 3 1 (.slice (some ⟨w.heap.size + 1, 0, none⟩) 0 0) 0 [] from by have := World.ownsRow_lit (e := 3) (size := 1) (base := w.heap.size) (w.alloc (.cells #[.int .i64 N, .slice B m d] 41)) #[] 0 (by simp) (by simp [maxLen]) rfl; rw [World.size_alloc] at this; exact this)
  have BB0 := Lib.hid (show Below w.heap.size w ((w.alloc (.cells #[.int .i64 N, .slice B m d] 41)).alloc (.cells #[] 3)) from ((Below.refl _ _).alloc (Nat.le_refl _) _).alloc (by simp) _)
  go_enter Try.func38, Try.ntmps38
  go_wp2_with fail
  refine (s_AllPermutations _ _).mono ?_
  rintro e w1 ⟨A1, c1, rfl, o1, b1⟩
  rw [HL.out] at o1 ⊢
  rw [HQ.out] at o1 ⊢
  have X1 := Lib.hid (X0.out.below b1)
  have E1 := Lib.hid (ownsRow_below E0.out b1)
  have b01 := below_trans BB0.out b1
  have O1 := Lib.hid (o1.base_ (base' := w.heap.size) (by simp; omega))
  clear b1 o1 X0 E0 BB0
  go_wp2_with fail
  go_loopg [5, 6, 8] q (fun r v s i wr => ∃ (k : Nat) (best : List Int) (least : Int) (A0 : Option Addr) (n0 c0 : Nat), k + r = q ∧ i = .int .i64 k ∧ v = .slice A0 n0 c0 ∧ s = .int .i64 least ∧ n0 = best.length ∧ wr.ownsRow w.heap.size 3 1 (.slice A0 n0 c0) n0 (cellsI best) ∧ pick (fun z => layCost ps N z gs) (l.drop k) best least = R ∧ Below w1.heap.size w1 wr)
  case atStart => exact ⟨0, [], -1, _, 0, 0, by omega, rfl, rfl, rfl, rfl, E1.out, HR.out, Below.refl _ _⟩
  case round =>
    obtain ⟨k, best, least, A0, n0, c0, hk, rfl, rfl, rfl, hn0, ho, hpk, hb⟩ := hrel
    have HN0 := Lib.hid hn0
    have HO := Lib.hid ho
    have HPK := Lib.hid hpk
    have X2 := Lib.hid (X1.out.below hb)
    have b02 := below_trans b01 hb
    clear hn0 ho hpk
    obtain ⟨p0, p1, _, _⟩ := X2.out.two
    by_cases hlt : k < q
    · obtain ⟨g, ca, x, D, dc, hv, hd, cc, _, ox, _⟩ := OwnSS.at_ (by decide) (O1.out.below hb) (k := k) (by rw [HQ.out]; omega)
      rw [HQ.out] at hv
      injection hv with hv1 _ hv3
      subst hv1 hv3
      have hx4 := HROW.out x (List.mem_of_mem_drop (i := k) (by rw [hd]; simp))
      have HD := Lib.hid hd
      obtain ⟨nx, hnx⟩ : ∃ nx, x.length = nx := ⟨_, rfl⟩
      rw [hnx] at cc hx4 ox
      have OX := Lib.hid ox
      have HNX := Lib.hid hnx
      clear hd hnx ox
      obtain ⟨cst, hc⟩ : ∃ cst, layCost ps N x gs = cst := ⟨_, rfl⟩
      have HC := Lib.hid hc
      clear hc
      have hi0 : (0 : Int) ≤ (k : Int) := by omega
      have hi1 : (k : Int) < (q : Int) := by omega
      have hg : g < wr.heap.size := World.block_lt_of_cell? wr _ cc
      go_wp2_with fail
      go_still_tail 6, (by kernel_rfl)
      go_wp2_with fail
      refine (s_LayoutCost _ _ _ _ _ _ _ _ _ _ _ _ x _ (H.out.below b02).drew hn (HP.out.below b02).drew hm (RdI.own OX.out).drew (ownsRow_cap OX.out) (by omega)).mono ?_
      rintro e w3 ⟨rfl, b3⟩
      rw [HC.out]
      have O3 := Lib.hid (ownsRow_below (ownsRow_drew HO.out) b3)
      have OX3 := Lib.hid (ownsRow_below (ownsRow_drew OX.out) b3)
      have cc3 := (b3.cell (p := ⟨g, k, none⟩) hg).trans cc
      have hb3 := below_trans hb.drew b3
      clear b3 HO OX X2 p0 p1 cc hb b02
      by_cases hc0 : 0 ≤ cst
      · by_cases hl0 : least < 0
        · go_wp2_with fail
          go_roundg (gk - 1)
          case measure => omega
          case rel => exact ⟨k + 1, x, cst, D, nx, dc, by omega, by go_num, rfl, rfl, HNX.out.symm, OX3.out, by rw [← HPK.out, HD.out, pick_take HC.out hc0 (.inl hl0)], hb3⟩
        · by_cases hl1 : cst < least
          · go_wp2_with fail
            go_roundg (gk - 1)
            case measure => omega
            case rel => exact ⟨k + 1, x, cst, D, nx, dc, by omega, by go_num, rfl, rfl, HNX.out.symm, OX3.out, by rw [← HPK.out, HD.out, pick_take HC.out hc0 (.inr hl1)], hb3⟩
          · go_wp2_with fail
            go_roundg (gk - 1)
            case measure => omega
            case rel => exact ⟨k + 1, best, least, A0, n0, c0, by omega, by go_num, rfl, rfl, HN0.out, O3.out, by rw [← HPK.out, HD.out, pick_leave HC.out (.inr ⟨by omega, by omega⟩)], hb3⟩
      · go_wp2_with fail
        go_roundg (gk - 1)
        case measure => omega
        case rel => exact ⟨k + 1, best, least, A0, n0, c0, by omega, by go_num, rfl, rfl, HN0.out, O3.out, by rw [← HPK.out, HD.out, pick_leave HC.out (.inl (by omega))], hb3⟩
    · go_wp2_with fail
      go_ret
      have hR : best = R := by
        rw [← HPK.out, List.drop_eq_nil_of_le (by rw [HQ.out]; omega), pick]
      subst hR
      have e0 := HN0.out
      subst e0
      exact ⟨A0, c0, rfl, HO.out, b02⟩
end Go.Proofs.YtgnallcfahpjmaaR
