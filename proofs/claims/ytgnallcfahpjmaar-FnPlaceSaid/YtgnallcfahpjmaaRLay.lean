/- Contracts of isLayout and LayoutCost (impl and spec). At most 2^40 gates, edges and numbers. -/
import Derived.Test.YtgnallcfahpjmaaROkGate
import Derived.Test.YtgnallcfahpjmaaRValid
import Derived.Test.YtgnallcfahpjmaaRPerm
import Derived.Test.YtgnallcfahpjmaaRPathP
import Derived.Deep.RegionHeld3
import Derived.IntWalk
namespace Go.Proofs.YtgnallcfahpjmaaR
open Go.RowKit

def isLay (ps : List (Int × Int)) (N : Int) (zs : List Int) : Bool := valid ps N && (isPerm zs && ((zs.length : Int) == N))
def lc (ps : List (Int × Int)) (N : Int) (zs : List Int) : List Gt → Int → Int
  | [], x => x
  | g :: r, x => if okG g.k g.a g.b g.c N = false then -1 else lc ps N zs r (if (arity g.k == 2) = true then x + gd ps N (zs.getD g.a.toNat 0) (zs.getD g.b.toNat 0) else x)
def layCost (ps : List (Int × Int)) (N : Int) (zs : List Int) (gs : List Gt) : Int := if isLay ps N zs = true then lc ps N zs gs 0 else -1
theorem gd_bd (ps : List (Int × Int)) (N a b : Int) : -1 ≤ gd ps N a b ∧ gd ps N a b < 4 := by
  refine ⟨?_, gd_lt ps N a b⟩
  rcases gd_sign ps N a b with h | h <;> omega
theorem okG_n {k a b c n : Int} (h : okG k a b c n = true) : 1 ≤ n ∧ n ≤ 4 := by
  unfold okG at h
  rw [Bool.and_eq_true] at h
  rcases inB_casesQ n 1 4 with ⟨_, h2⟩ | ⟨h2, _⟩
  · exact h2
  · rw [h2] at h; exact absurd h.1 (by simp)
theorem okG_a {k a b c n : Int} (h : okG k a b c n = true) : 0 ≤ a ∧ a < n := by
  unfold okG at h
  rw [Bool.and_eq_true, Bool.and_eq_true] at h
  obtain ⟨_, h1, h2⟩ := h
  have h1' : 0 < arity k := by simpa using h1
  rcases inB_casesQ a 0 (n - 1) with ⟨_, h3, h4⟩ | ⟨h3, _⟩
  · exact ⟨h3, by omega⟩
  · have hb : badQ (arity k) (n - 1) ([] : List Int).length [] a = true := by simp [badQ, h1', h3]
    rw [okQ, if_pos hb] at h2
    cases h2
theorem okG_b {k a b c n : Int} (h : okG k a b c n = true) (h2' : 2 ≤ arity k) : 0 ≤ b ∧ b < n := by
  unfold okG at h
  rw [Bool.and_eq_true, Bool.and_eq_true] at h
  obtain ⟨_, h1, h2⟩ := h
  rw [okQ] at h2
  split at h2
  · cases h2
  · rcases inB_casesQ b 0 (n - 1) with ⟨_, h3, h4⟩ | ⟨h3, _⟩
    · exact ⟨h3, by omega⟩
    · have hb : badQ (arity k) (n - 1) (([] : List Int) ++ [a]).length ([] ++ [a]) b = true := by simp [badQ, h3, show (1 : Int) < arity k by omega]
      rw [okQ, if_pos hb] at h2
      cases h2
theorem drop_getD {zs r : List Int} {k : Nat} {x : Int} (h : zs.drop k = x :: r) : zs.getD k 0 = x := by
  have := congrArg (fun l => l[0]?) h
  simp at this
  simp [List.getD, this]

set_option maxRecDepth 100000 in
set_option maxHeartbeats 1600000 in
theorem i_isLayout (N : Int) (B : Option Addr) (m d : Nat) (ps : List (Int × Int)) (Z : Option Addr) (nz cz : Nat) (zs : List Int) (w : World) (hp : RdP w B m ps) (hm : m ≤ 1099511627776) (hz : RdI w Z nz zs) (hn : nz ≤ 1099511627776) :
    Calls Try.prog 99 #[.agg #[.int .i64 N, .slice B m d], .slice Z nz cz] w fun e w' => e = .returned (.bool (isLay ps N zs)) ∧ Below w.heap.size w w' := by
  have HP := Lib.hid hp
  have HZ := Lib.hid hz
  have HL : Hid (isLay ps N zs = (valid ps N && (isPerm zs && ((nz : Int) == N)))) := Lib.hid (by unfold isLay; rw [hz.1])
  clear hp hz
  have X0 := Lib.hid (Bx.new w 41 #[.int .i64 N, .slice B m d])
  go_enter Try.func99, Try.ntmps99
  go_wp2_with fail
  refine (i_IsValidGraph _ _ _ _ _ _ (HP.out.alloc _) hm).mono ?_
  rintro e w1 ⟨rfl, b1⟩
  have X1 := Lib.hid (X0.out.below b1)
  have Z1 := Lib.hid ((HZ.out.alloc _).below b1)
  have b01 := below_alloc b1
  clear b1 X0
  cases h1 : valid ps N
  · go_wp2_with fail
    go_ret
    exact ⟨ret_bool (by rw [HL.out, h1]; rfl), b01⟩
  · go_wp2_with fail
    refine (i_IsPermutation _ _ _ _ _ Z1.out hn).mono ?_
    rintro e w2 ⟨rfl, b2⟩
    obtain ⟨p0, p1, _, _⟩ := (X1.out.below b2).two
    have b02 := below_trans b01 b2
    cases h2 : isPerm zs
    · go_wp2_with fail
      go_ret
      exact ⟨ret_bool (by rw [HL.out, h1, h2]; rfl), b02⟩
    · cases h3 : ((nz : Int) == N)
      · go_wp2_with fail
        go_ret
        exact ⟨ret_bool (by rw [HL.out, h1, h2, h3]; rfl), b02⟩
      · go_wp2_with fail
        go_ret
        exact ⟨ret_bool (by rw [HL.out, h1, h2, h3]; rfl), b02⟩

set_option maxRecDepth 100000 in
set_option maxHeartbeats 3200000 in
theorem i_LayoutCost (A : Option Addr) (n cap : Nat) (gs : List Gt) (N : Int) (B : Option Addr) (m d : Nat) (ps : List (Int × Int)) (Z : Option Addr) (nz cz : Nat) (zs : List Int) (w : World) (h : RdG w A n gs) (hn : n ≤ 1099511627776) (hp : RdP w B m ps) (hm : m ≤ 1099511627776) (hz : RdI w Z nz zs) (hnz : nz ≤ 1099511627776) :
    Calls Try.prog 40 #[.slice A n cap, .agg #[.int .i64 N, .slice B m d], .slice Z nz cz] w fun e w' => e = .returned (.int .i64 (layCost ps N zs gs)) ∧ Below w.heap.size w w' := by
  have H := Lib.hid h
  have HP := Lib.hid hp
  have HZ := Lib.hid hz
  have hlen := h.1
  have hzl := hz.1
  clear h hp hz
  have X0 := Lib.hid (Bx.new w 41 #[.int .i64 N, .slice B m d])
  obtain ⟨R, hR⟩ : ∃ R, layCost ps N zs gs = R := ⟨_, rfl⟩
  rw [hR]
  have HR := Lib.hid hR
  clear hR
  go_enter Try.func40, Try.ntmps40
  go_wp2_with fail
  refine (i_isLayout _ _ _ _ _ _ _ _ _ _ (HP.out.alloc _) hm (HZ.out.alloc _) hnz).mono ?_
  rintro e w1 ⟨rfl, b1⟩
  have X1 := Lib.hid (X0.out.below b1)
  have b01 := below_alloc b1
  clear b1 X0
  cases h1 : isLay ps N zs
  · go_wp2_with fail
    go_ret
    exact ⟨ret_int (by rw [← HR.out]; unfold layCost; rw [h1]; rfl), b01⟩
  · have HRR : Hid (lc ps N zs gs 0 = R) := Lib.hid (by rw [← HR.out]; unfold layCost; rw [if_pos h1])
    have hNz : (nz : Int) = N := by
      unfold isLay at h1
      simp only [Bool.and_eq_true, beq_iff_eq] at h1
      omega
    clear h1
    go_wp2_with fail
    go_loopg [7, 16] n (fun q x i wr => ∃ (k : Nat) (x' : Int), k + q = n ∧ x = .int .i64 x' ∧ i = .int .i64 k ∧ -(k : Int) ≤ x' ∧ x' ≤ 4 * k ∧ lc ps N zs (gs.drop k) x' = R ∧ Bx wr w.heap.size 41 #[.int .i64 N, .slice B m d] ∧ Below w.heap.size w wr)
    case atStart => exact ⟨0, 0, by omega, rfl, rfl, by omega, by omega, by simpa using HRR.out, X1.out, b01⟩
    case round =>
      obtain ⟨k, x', hk, rfl, rfl, hx1, hx2, hx, hg, hb⟩ := hrel
      have HX := Lib.hid hx
      have HG := Lib.hid hg
      have hs0 := hb.size
      clear hx hg
      obtain ⟨p0, p1, _, _⟩ := HG.out.two
      have hsl : w.heap.size < wr.heap.size := HG.out.lt
      by_cases hlt : k < n
      · obtain ⟨bb, off, ⟨ky, ga, gb, gc⟩, hA, hB, hd, c0, c1, c2, c3⟩ := (H.out.below hb).at_ hlt
        subst hA
        dsimp only at c0 c1 c2 c3
        have HD := Lib.hid hd
        clear hd
        have XE := Lib.hid (Bx.new wr 63 #[.int .i64 ky, .int .i64 ga, .int .i64 gb, .int .i64 gc])
        have XG := Lib.hid (HG.out.alloc (.cells #[.int .i64 ky, .int .i64 ga, .int .i64 gb, .int .i64 gc] 63))
        have bA := hb.alloc hs0 (.cells #[.int .i64 ky, .int .i64 ga, .int .i64 gb, .int .i64 gc] 63)
        cases h1 : okG ky ga gb gc N
        · have H1 := Lib.hid h1
          clear h1
          go_wp2_with fail
          refine (i_IsValidGate _ _ _ _ _ _).mono ?_
          rintro e w1 ⟨rfl, b1⟩
          rw [H1.out]
          go_wp2_with fail
          go_ret
          refine ⟨ret_int ?_, below_trans bA b1⟩
          rw [← HX.out, HD.out, lc, if_pos H1.out]
        · have H1 := Lib.hid h1
          clear h1
          go_wp2_with fail
          refine (i_IsValidGate _ _ _ _ _ _).mono ?_
          rintro e w1 ⟨rfl, b1⟩
          rw [H1.out]
          clear c0 c1 c2 c3 p0 p1
          have b11 := below_trans bA b1
          have X11 := Lib.hid (XG.out.below b1)
          obtain ⟨q0, q1, q2, q3, _⟩ := (XE.out.below b1).four
          have hge : wr.heap.size < w1.heap.size := (XE.out.below b1).lt
          obtain ⟨p0, p1, _, _⟩ := X11.out.two
          clear b1 bA XE XG
          generalize wr.heap.size = ge at q0 q1 q2 q3 hge ⊢
          cases h2 : (arity ky == 2)
          · have H2 := Lib.hid h2
            go_wp2_with fail
            refine (i_Arity _ _).mono ?_
            rintro e w' ⟨rfl, rfl⟩
            go_wp2_with fail
            go_roundg (gk - 1)
            case measure => omega
            case rel => exact ⟨k + 1, x', by omega, rfl, by go_num, by omega, by omega, by rw [← HX.out, HD.out, lc, if_neg (by rw [H1.out]; simp), if_neg (by rw [H2.out]; simp)], X11.out, b11⟩
          · have H2 := Lib.hid h2
            have ha := okG_a H1.out
            have hbb := okG_b H1.out (by have : arity ky = 2 := by simpa using h2
                                         omega)
            obtain ⟨ka, rfl⟩ : ∃ ka : Nat, ga = ka := ⟨ga.toNat, by omega⟩
            obtain ⟨kb, rfl⟩ : ∃ kb : Nat, gb = kb := ⟨gb.toNat, by omega⟩
            have Hz := HZ.out.below b11
            obtain ⟨bz, oz, xa, hZ, hBz, hda, ca⟩ := Hz.at_ (show ka < nz by omega)
            obtain ⟨bz', oz', xb, hZ', _, hdb, cb⟩ := Hz.at_ (show kb < nz by omega)
            subst hZ
            injection hZ' with hZ'
            injection hZ' with hZ1 hZ2 _
            subst hZ1 hZ2
            have ea := drop_getD hda
            have eb := drop_getD hdb
            obtain ⟨y, hy⟩ : ∃ y, gd ps N xa xb = y := ⟨_, rfl⟩
            have hybd := gd_bd ps N xa xb
            rw [hy] at hybd
            obtain ⟨hy1, hy2⟩ := hybd
            have HY := Lib.hid hy
            have HEQ : Hid (lc ps N zs (gs.drop (k + 1)) (x' + y) = R) := Lib.hid (by rw [← HX.out, HD.out, lc, if_neg (by rw [H1.out]; simp), if_pos H2.out, Int.toNat_natCast, Int.toNat_natCast, ea, eb, hy])
            have HPx := Lib.hid (HP.out.below b11)
            have hi0 : (ka : Int) < (nz : Int) := by omega
            have hi1 : (kb : Int) < (nz : Int) := by omega
            clear hda hdb hy ea eb Hz
            go_wp2_with fail
            refine (i_Arity _ _).mono ?_
            rintro e w' ⟨rfl, rfl⟩
            go_wp2_with fail
            have hwr : IntKind.i64.wrap (x' + y) = x' + y := IntWalk.i64_in _ (by omega)
            go_region_held3 (fun w' => w'.cell? ⟨w.heap.size, 0, none⟩ = some (.int .i64 N) ∧ w'.cell? ⟨w.heap.size, 1, none⟩ = some (.slice B m d) ∧ w'.cell? ⟨ge, 1, none⟩ = some (.int .i64 (ka : Int)) ∧ w'.cell? ⟨ge, 2, none⟩ = some (.int .i64 (kb : Int)) ∧ w'.cell? ⟨bz, oz + ka, none⟩ = some (.int .i64 xa) ∧ w'.cell? ⟨bz, oz + kb, none⟩ = some (.int .i64 xb))
              (first | go_keep | exact ⟨k0, k1, k2, k3, k4, k5⟩)
              (first | (go_at_call 25; (with_reducible refine (i_GraphDistance _ _ _ _ _ _ _ _ HPx.out.drew hm).mono ?_); rintro e w3 ⟨rfl, b3⟩; rw [HY.out]; have k0 := (b3.cell (p := ⟨w.heap.size, 0, none⟩) X11.out.lt).trans p0; have k1 := (b3.cell (p := ⟨w.heap.size, 1, none⟩) X11.out.lt).trans p1; have k2 := (b3.cell (p := ⟨ge, 1, none⟩) hge).trans q1; have k3 := (b3.cell (p := ⟨ge, 2, none⟩) hge).trans q2; have k4 := (b3.cell (p := ⟨bz, oz + ka, none⟩) hBz).trans ca; have k5 := (b3.cell (p := ⟨bz, oz + kb, none⟩) hBz).trans cb))
            all_goals clear hwr
            all_goals go_wp2_with fail
            all_goals go_roundg (gk - 1)
            all_goals first
              | omega
              | exact ⟨k + 1, x' + y, by omega, by go_num, by go_num, by omega, by omega, HEQ.out, X11.out.drew.below b3, below_trans b11.drew b3⟩
      · go_wp2_with fail
        go_ret
        refine ⟨ret_int ?_, hb⟩
        rw [← HX.out, List.drop_eq_nil_of_le (by omega)]; rfl
set_option maxRecDepth 100000 in
set_option maxHeartbeats 3200000 in
theorem s_LayoutCost (A : Option Addr) (n cap : Nat) (gs : List Gt) (N : Int) (B : Option Addr) (m d : Nat) (ps : List (Int × Int)) (Z : Option Addr) (nz cz : Nat) (zs : List Int) (w : World) (h : RdG w A n gs) (hn : n ≤ 1099511627776) (hp : RdP w B m ps) (hm : m ≤ 1099511627776) (hz : RdI w Z nz zs) (hzc : nz ≤ cz) (hnz : nz ≤ 1099511627776) :
    Calls Try.prog 41 #[.slice A n cap, .agg #[.int .i64 N, .slice B m d], .slice Z nz cz] w fun e w' => e = .returned (.int .i64 (layCost ps N zs gs)) ∧ Below w.heap.size w w' := by
  have H := Lib.hid h
  have HP := Lib.hid hp
  have HZ := Lib.hid hz
  have hlen := h.1
  have hzl := hz.1
  have HL : Hid (isLay ps N zs = (valid ps N && (isPerm zs && ((nz : Int) == N)))) := Lib.hid (by unfold isLay; rw [hz.1])
  clear h hp hz
  have X0 := Lib.hid (Bx.new w 41 #[.int .i64 N, .slice B m d])
  obtain ⟨R, hR⟩ : ∃ R, layCost ps N zs gs = R := ⟨_, rfl⟩
  rw [hR]
  have HR := Lib.hid hR
  clear hR
  go_enter Try.func41, Try.ntmps41
  go_wp2_with fail
  refine (s_IsPermutation _ _ _ _ _ (HZ.out.alloc _) hzc hnz).mono ?_
  rintro e w1 ⟨rfl, b1⟩
  have X1 := Lib.hid (X0.out.below b1)
  have P1 := Lib.hid ((HP.out.alloc _).below b1)
  have b01 := below_alloc b1
  clear b1 X0
  obtain ⟨p0, p1, _, _⟩ := X1.out.two
  cases h1 : isPerm zs
  · go_wp2_with fail
    go_ret
    exact ⟨ret_int (by rw [← HR.out]; unfold layCost; rw [HL.out, h1, Bool.false_and, Bool.and_false]; rfl), b01⟩
  · cases h2 : ((nz : Int) == N)
    · have h2n : ((nz : Int) != N) = true := by simp [bne, h2]
      go_wp2_with fail
      go_ret
      exact ⟨ret_int (by rw [← HR.out]; unfold layCost; rw [HL.out, h2, Bool.and_false, Bool.and_false]; rfl), b01⟩
    · have h2n : ((nz : Int) != N) = false := by simp [bne, h2]
      go_wp2_with fail
      clear h2n
      refine (s_IsValidGraph _ _ _ _ _ _ P1.out hm).mono ?_
      rintro e w2 ⟨rfl, b2⟩
      have X2 := Lib.hid (X1.out.below b2)
      have b02 := below_trans b01 b2
      clear p0 p1 X1 P1 b2
      have hNz : (nz : Int) = N := by simpa using h2
      cases h3 : valid ps N
      · go_wp2_with fail
        go_ret
        exact ⟨ret_int (by rw [← HR.out]; unfold layCost; rw [HL.out, h3, Bool.false_and]; rfl), b02⟩
      · have HRR : Hid (lc ps N zs gs 0 = R) := Lib.hid (by rw [← HR.out]; unfold layCost; rw [if_pos (by rw [HL.out, h1, h2, h3]; rfl)])
        clear h1 h2 h3
        go_wp2_with fail
        go_loopg [7, 8] n (fun q x i wr => ∃ (k : Nat) (x' : Int), k + q = n ∧ x = .int .i64 x' ∧ i = .int .i64 k ∧ -(k : Int) ≤ x' ∧ x' ≤ 4 * k ∧ lc ps N zs (gs.drop k) x' = R ∧ Bx wr w.heap.size 41 #[.int .i64 N, .slice B m d] ∧ Below w.heap.size w wr)
        case atStart => exact ⟨0, 0, by omega, rfl, rfl, by omega, by omega, by simpa using HRR.out, X2.out, b02⟩
        case round =>
          clear X2 b02 b01
          obtain ⟨k, x', hk, rfl, rfl, hx1, hx2, hx, hg, hb⟩ := hrel
          have HX := Lib.hid hx
          have HG := Lib.hid hg
          have hs0 := hb.size
          clear hx hg
          obtain ⟨p0, p1, _, _⟩ := HG.out.two
          have hsl : w.heap.size < wr.heap.size := HG.out.lt
          by_cases hlt : k < n
          · obtain ⟨bb, off, ⟨ky, ga, gb, gc⟩, hA, hB, hd, c0, c1, c2, c3⟩ := (H.out.below hb).at_ hlt
            subst hA
            dsimp only at c0 c1 c2 c3
            have HD := Lib.hid hd
            clear hd
            have hi : (k : Int) < (n : Int) := by omega
            cases h1 : okG ky ga gb gc N
            · have H1 := Lib.hid h1
              clear h1
              go_wp2_with fail
              go_region_held3 (fun w' => w'.cell? ⟨bb, off + k * 4, none⟩ = some (.int .i64 ky) ∧ w'.cell? ⟨bb, off + k * 4 + 1, none⟩ = some (.int .i64 ga) ∧ w'.cell? ⟨bb, off + k * 4 + 2, none⟩ = some (.int .i64 gb) ∧ w'.cell? ⟨bb, off + k * 4 + 3, none⟩ = some (.int .i64 gc) ∧ w'.cell? ⟨w.heap.size, 0, none⟩ = some (.int .i64 N) ∧ w'.cell? ⟨w.heap.size, 1, none⟩ = some (.slice B m d))
                (first | go_keep | exact ⟨k0, k1, k2, k3, k4, k5⟩)
                (first | (go_at_call 51; (with_reducible refine (s_IsValidGate ky ga gb gc N _).mono ?_); rintro e w1 ⟨rfl, b1⟩; rw [H1.out]; have k0 := (b1.cell (p := ⟨bb, off + k * 4, none⟩) hB).trans c0; have k1 := (b1.cell (p := ⟨bb, off + k * 4 + 1, none⟩) hB).trans c1; have k2 := (b1.cell (p := ⟨bb, off + k * 4 + 2, none⟩) hB).trans c2; have k3 := (b1.cell (p := ⟨bb, off + k * 4 + 3, none⟩) hB).trans c3; have k4 := (b1.cell (p := ⟨w.heap.size, 0, none⟩) HG.out.lt).trans p0; have k5 := (b1.cell (p := ⟨w.heap.size, 1, none⟩) HG.out.lt).trans p1))
              all_goals go_wp2_with fail
              all_goals go_ret
              all_goals exact ⟨ret_int (by rw [← HX.out, HD.out, lc, if_pos H1.out]), below_trans hb.drew b1⟩
            · have H1 := Lib.hid h1
              clear h1
              go_wp2_with fail
              go_region_held3 (fun w' => w'.cell? ⟨bb, off + k * 4, none⟩ = some (.int .i64 ky) ∧ w'.cell? ⟨bb, off + k * 4 + 1, none⟩ = some (.int .i64 ga) ∧ w'.cell? ⟨bb, off + k * 4 + 2, none⟩ = some (.int .i64 gb) ∧ w'.cell? ⟨bb, off + k * 4 + 3, none⟩ = some (.int .i64 gc) ∧ w'.cell? ⟨w.heap.size, 0, none⟩ = some (.int .i64 N) ∧ w'.cell? ⟨w.heap.size, 1, none⟩ = some (.slice B m d))
                (first | go_keep | exact ⟨k0, k1, k2, k3, k4, k5⟩)
                (first | (go_at_call 51; (with_reducible refine (s_IsValidGate ky ga gb gc N _).mono ?_); rintro e w1 ⟨rfl, b1⟩; rw [H1.out]; have k0 := (b1.cell (p := ⟨bb, off + k * 4, none⟩) hB).trans c0; have k1 := (b1.cell (p := ⟨bb, off + k * 4 + 1, none⟩) hB).trans c1; have k2 := (b1.cell (p := ⟨bb, off + k * 4 + 2, none⟩) hB).trans c2; have k3 := (b1.cell (p := ⟨bb, off + k * 4 + 3, none⟩) hB).trans c3; have k4 := (b1.cell (p := ⟨w.heap.size, 0, none⟩) HG.out.lt).trans p0; have k5 := (b1.cell (p := ⟨w.heap.size, 1, none⟩) HG.out.lt).trans p1))
              clear c0 c1 c2 c3 p0 p1
              have b11 := below_trans hb.drew b1
              have X11 := Lib.hid (HG.out.drew.below b1)
              have hB1 : bb < w1.heap.size := Nat.lt_of_lt_of_le hB b1.size
              clear b1
              cases h2 : (arity ky == 2)
              · have H2 := Lib.hid h2
                go_wp2_with fail
                refine (s_Arity _ _).mono ?_
                rintro e w' ⟨rfl, rfl⟩
                go_wp2_with fail
                go_roundg (gk - 1)
                case measure => omega
                case rel => exact ⟨k + 1, x', by omega, rfl, by go_num, by omega, by omega, by rw [← HX.out, HD.out, lc, if_neg (by rw [H1.out]; simp), if_neg (by rw [H2.out]; simp)], X11.out, b11⟩
              · have H2 := Lib.hid h2
                have ha := okG_a H1.out
                have hbb := okG_b H1.out (by have : arity ky = 2 := by simpa using h2
                                             omega)
                obtain ⟨ka, rfl⟩ : ∃ ka : Nat, ga = ka := ⟨ga.toNat, by omega⟩
                obtain ⟨kb, rfl⟩ : ∃ kb : Nat, gb = kb := ⟨gb.toNat, by omega⟩
                have Hz := HZ.out.below b11
                obtain ⟨bz, oz, xa, hZ, hBz, hda, ca⟩ := Hz.at_ (show ka < nz by omega)
                obtain ⟨bz', oz', xb, hZ', _, hdb, cb⟩ := Hz.at_ (show kb < nz by omega)
                subst hZ
                injection hZ' with hZ'
                injection hZ' with hZ1 hZ2 _
                subst hZ1 hZ2
                have ea := drop_getD hda
                have eb := drop_getD hdb
                obtain ⟨y, hy⟩ : ∃ y, gd ps N xa xb = y := ⟨_, rfl⟩
                have hybd := gd_bd ps N xa xb
                rw [hy] at hybd
                obtain ⟨hy1, hy2⟩ := hybd
                have HY := Lib.hid hy
                have HEQ : Hid (lc ps N zs (gs.drop (k + 1)) (x' + y) = R) := Lib.hid (by rw [← HX.out, HD.out, lc, if_neg (by rw [H1.out]; simp), if_pos H2.out, Int.toNat_natCast, Int.toNat_natCast, ea, eb, hy])
                have HPx := Lib.hid (HP.out.below b11)
                have hi0 : (ka : Int) < (nz : Int) := by omega
                have hi1 : (kb : Int) < (nz : Int) := by omega
                clear hda hdb hy ea eb Hz
                go_wp2_with fail
                refine (s_Arity _ _).mono ?_
                rintro e w' ⟨rfl, rfl⟩
                go_wp2_with fail
                have hwr : IntKind.i64.wrap (x' + y) = x' + y := IntWalk.i64_in _ (by omega)
                go_region_held3 (fun w' => w'.cell? ⟨bb, off + k * 4, none⟩ = some (.int .i64 ky) ∧ w'.cell? ⟨bb, off + k * 4 + 1, none⟩ = some (.int .i64 (ka : Int)) ∧ w'.cell? ⟨bb, off + k * 4 + 2, none⟩ = some (.int .i64 (kb : Int)) ∧ w'.cell? ⟨bb, off + k * 4 + 3, none⟩ = some (.int .i64 gc) ∧ w'.cell? ⟨w.heap.size, 0, none⟩ = some (.int .i64 N) ∧ w'.cell? ⟨w.heap.size, 1, none⟩ = some (.slice B m d) ∧ w'.cell? ⟨bz, oz + ka, none⟩ = some (.int .i64 xa) ∧ w'.cell? ⟨bz, oz + kb, none⟩ = some (.int .i64 xb))
                  (first | go_keep | exact ⟨j0, j1, j2, j3, j4, j5, j6, j7⟩)
                  (first | (go_at_call 26; (with_reducible refine (s_GraphDistance _ _ _ _ _ _ _ _ HPx.out.drew hm).mono ?_); rintro e w3 ⟨rfl, b3⟩; rw [HY.out]; have j0 := (b3.cell (p := ⟨bb, off + k * 4, none⟩) hB1).trans k0; have j1 := (b3.cell (p := ⟨bb, off + k * 4 + 1, none⟩) hB1).trans k1; have j2 := (b3.cell (p := ⟨bb, off + k * 4 + 2, none⟩) hB1).trans k2; have j3 := (b3.cell (p := ⟨bb, off + k * 4 + 3, none⟩) hB1).trans k3; have j4 := (b3.cell (p := ⟨w.heap.size, 0, none⟩) X11.out.lt).trans k4; have j5 := (b3.cell (p := ⟨w.heap.size, 1, none⟩) X11.out.lt).trans k5; have j6 := (b3.cell (p := ⟨bz, oz + ka, none⟩) hBz).trans ca; have j7 := (b3.cell (p := ⟨bz, oz + kb, none⟩) hBz).trans cb))
                all_goals clear hwr
                all_goals go_wp2_with fail
                all_goals go_roundg (gk - 1)
                all_goals first
                  | omega
                  | exact ⟨k + 1, x' + y, by omega, by go_num, by go_num, by omega, by omega, HEQ.out, X11.out.drew.below b3, below_trans b11.drew b3⟩
          · go_wp2_with fail
            go_ret
            refine ⟨ret_int ?_, hb⟩
            rw [← HX.out, List.drop_eq_nil_of_le (by omega)]; rfl
end Go.Proofs.YtgnallcfahpjmaaR
