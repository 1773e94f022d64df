/- Contracts of isLayout and LayoutCost (impl and spec). At most 2^40 gates, edges and numbers. -/
import Derived.Test.YtibhikngiceeeaaOkGate
import Derived.Test.YtibhikngiceeeaaValid
import Derived.Test.YtibhikngiceeeaaPerm
import Derived.Test.YtibhikngiceeeaaPathP
import Derived.Deep.RegionHeld3
import Derived.IntWalk
namespace Go.Proofs.Ytibhikngiceeeaa
open Go.RowKit

def isLay (ps : List (Int × Int)) (N : Int) (zs : List Int) : Bool := valid ps N && (isPerm zs && ((zs.length : Int) == N))
def lc (ps : List (Int × Int)) (N : Int) (zs : List Int) : List Gt → Int → Int
  | [], x => x
  | g :: r, x => if okG g.k g.a g.b g.c N = false then -1 else lc ps N zs r (if (arity g.k == 2) = true then x + gd ps N (zs.getD g.a.toNat 0) (zs.getD g.b.toNat 0) else x)
def layCost (ps : List (Int × Int)) (N : Int) (zs : List Int) (gs : List Gt) : Int := if isLay ps N zs = true then lc ps N zs gs 0 else -1
theorem gd_bd (ps : List (Int × Int)) (N a b : Int) : -1 ≤ gd ps N a b ∧ gd ps N a b < 4 := by
  refine ⟨?_, gd_lt ps N a b⟩
  rcases gd_sign ps N a b with h | h <;> omega
theorem okG_n {k a b c n : Int} (h : okG k a b c n = true) : 1 ≤ n ∧ n ≤ 4 := by
  unfold okG at h
  rw [Bool.and_eq_true] at h
  rcases inB_casesQ n 1 4 with ⟨_, h2⟩ | ⟨h2, _⟩
  · exact h2
  · rw [h2] at h; exact absurd h.1 (by simp)
theorem okG_a {k a b c n : Int} (h : okG k a b c n = true) : 0 ≤ a ∧ a < n := by
  unfold okG at h
  rw [Bool.and_eq_true, Bool.and_eq_true] at h
  obtain ⟨_, h1, h2⟩ := h
  have h1' : 0 < arity k := by simpa using h1
  rcases inB_casesQ a 0 (n - 1) with ⟨_, h3, h4⟩ | ⟨h3, _⟩
  · exact ⟨h3, by omega⟩
  · have hb : badQ (arity k) (n - 1) ([] : List Int).length [] a = true := by simp [badQ, h1', h3]
    rw [okQ, if_pos hb] at h2
    cases h2
theorem okG_b {k a b c n : Int} (h : okG k a b c n = true) (h2' : 2 ≤ arity k) : 0 ≤ b ∧ b < n := by
  unfold okG at h
  rw [Bool.and_eq_true, Bool.and_eq_true] at h
  obtain ⟨_, h1, h2⟩ := h
  rw [okQ] at h2
  split at h2
  · cases h2
  · rcases inB_casesQ b 0 (n - 1) with ⟨_, h3, h4⟩ | ⟨h3, _⟩
    · exact ⟨h3, by omega⟩
    · have hb : badQ (arity k) (n - 1) (([] : List Int) ++ [a]).length ([] ++ [a]) b = true := by simp [badQ, h3, show (1 : Int) < arity k by omega]
      rw [okQ, if_pos hb] at h2
      cases h2
theorem drop_getD {zs r : List Int} {k : Nat} {x : Int} (h : zs.drop k = x :: r) : zs.getD k 0 = x := by
  have := congrArg (fun l => l[0]?) h
  simp at this
  simp [List.getD, this]

set_option maxRecDepth 100000 in
set_option maxHeartbeats 1600000 in
theorem i_isLayout (N : Int) (B : Option Addr) (m d : Nat) (ps : List (Int × Int)) (Z : Option Addr) (nz cz : Nat) (zs : List Int) (w : World) (hp : RdP w B m ps) (hm : m ≤ 1099511627776) (hz : RdI w Z nz zs) (hn : nz ≤ 1099511627776) :
    Calls Try.prog 89 #[.agg #[.int .i64 N, .slice B m d], .slice Z nz cz] w fun e w' => e = .returned (.bool (isLay ps N zs)) ∧ Below w.heap.size w w' := by
  have HP := Lib.hid hp
  have HZ := Lib.hid hz
  have HL : Hid (isLay ps N zs = (valid ps N && (isPerm zs && ((nz : Int) == N)))) := Lib.hid (by unfold isLay; rw [hz.1])
  clear hp hz
  have X0 := Lib.hid (Bx.new w 61 #[.int .i64 N, .slice B m d])
  go_enter Try.func89, Try.ntmps89
  go_wp2_with fail
  refine (i_IsValidGraph _ _ _ _ _ _ (HP.out.alloc _) hm).mono ?_
  rintro e w1 ⟨rfl, b1⟩
  have X1 := Lib.hid (X0.out.below b1)
  have Z1 := Lib.hid ((HZ.out.alloc _).below b1)
  have b01 := below_alloc b1
  clear b1 X0
  cases h1 : valid ps N
  · go_wp2_with fail
    go_ret
    exact ⟨ret_bool (by rw [HL.out, h1]; rfl), b01⟩
  · go_wp2_with fail
    refine (i_IsPermutation _ _ _ _ _ Z1.out hn).mono ?_
    rintro e w2 ⟨rfl, b2⟩
    obtain ⟨p0, p1, _, _⟩ := (X1.out.below b2).two
    have b02 := below_trans b01 b2
    cases h2 : isPerm zs
    · go_wp2_with fail
      go_ret
      exact ⟨ret_bool (by rw [HL.out, h1, h2]; rfl), b02⟩
    · cases h3 : ((nz : Int) == N)
      · go_wp2_with fail
        go_ret
        exact ⟨ret_bool (by rw [HL.out, h1, h2, h3]; rfl), b02⟩
      · go_wp2_with fail
        go_ret
        exact ⟨ret_bool (by rw [HL.out, h1, h2, h3]; rfl), b02⟩

end Go.Proofs.Ytibhikngiceeeaa
