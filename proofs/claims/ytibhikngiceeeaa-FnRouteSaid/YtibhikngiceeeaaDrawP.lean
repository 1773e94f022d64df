/- Contracts of the drawing helpers l1Once, l1PickInt, IdentityPermutation (spec), l8Perm, l8Bent. -/
import Derived.Test.YtibhikngiceeeaaDraw
import Derived.Test.YtibhikngiceeeaaPermQ
import Derived.Test.YtibhikngiceeeaaIntS
import Derived.Test.YtibhikngiceeeaaReads
namespace Go.Proofs.Ytibhikngiceeeaa
open Go.RowKit

/-- Drawing: only the cursor's block has turned of what was there. -/
theorem dr_trans {a b c : World} {g : Nat} (h : a.grownBy b (some g)) (k : b.grownBy c (some g)) : a.grownBy c (some g) := h.trans k
theorem dr_below {a b c : World} {g : Nat} (h : a.grownBy b (some g)) (k : Below b.heap.size b c) : a.grownBy c (some g) :=
  ⟨k.os.trans h.os, k.tape.trans h.tape, k.output.trans h.output, Nat.le_trans h.size k.size, fun i hi hne => (k.block i (Nat.lt_of_lt_of_le hi h.size)).trans (h.block i hi hne)⟩
theorem dr_row {a b c : World} {g : Nat} {row : Option Nat} (h : a.grownBy b (some g)) (k : b.grownBy c row) (hr : ∀ i, row = some i → a.heap.size ≤ i) : a.grownBy c (some g) :=
  ⟨k.os.trans h.os, k.tape.trans h.tape, k.output.trans h.output, Nat.le_trans h.size k.size, fun i hi hne => (k.block i (Nat.lt_of_lt_of_le hi h.size) (fun e => by have := hr i e.symm; omega)).trans (h.block i hi hne)⟩
theorem dr_set {a b : World} {g : Nat} (h : a.grownBy b (some g)) {p : Addr} (hp : a.heap.size ≤ p.block) (u : Value) : a.grownBy (b.setCell p u) (some g) :=
  dr_row h (row := some p.block) ⟨rfl, rfl, rfl, by simp [World.setCell], fun k _ hk => Below.heap_setCell b _ u k (fun e => hk (by rw [e]))⟩ (fun i e => by injection e with e; omega)
theorem dr_own {a b : World} {g : Nat} (h : a.grownBy b (some g)) (hc : Cur a g) {base e sz n : Nat} {v : Value} {xs : List Value} (ho : a.ownsRow base e sz v n xs) (hne : e ≠ 140) : b.ownsRow base e sz v n xs := by
  obtain ⟨cs, hb⟩ := hc.bx
  exact ho.kept h (.inr fun he => own_bx_ne ho hb hne he.symm)
theorem dr_bx {a b : World} {g : Nat} (h : a.grownBy b (some g)) {k t : Nat} {cs : Array Value} (hb : Bx a k t cs) (hne : k ≠ g) : Bx b k t cs := hb.grown h (fun e => hne (by injection e))

def DrawnB (g : Nat) (w : World) (e : Ending) (w' : World) : Prop := ∃ b : Bool, e = .returned (.bool b) ∧ Cur w' g ∧ w.grownBy w' (some g)
theorem s_l1Once (g : Nat) (n : Int) (w : World) (h : Cur w g) (hn : n ≤ 1000000) : Calls Try.prog 64 #[.pointer (some ⟨g, 0, none⟩), .int .i64 n] w (DrawnB g w) := by
  have H := Lib.hid h
  clear h
  go_enter Try.func64, Try.ntmps64
  go_wp2_with fail
  refine (s_l1Below _ _ _ H.out hn).mono ?_
  rintro e w1 ⟨x, rfl, _, hc, g1⟩
  go_wp2_with fail
  go_ret
  exact ⟨_, rfl, hc, g1⟩
set_option maxHeartbeats 400000 in
theorem s_l1PickInt (g : Nat) (A : Option Addr) (n cap : Nat) (zs : List Int) (w : World) (h : Cur w g) (hr : w.ownsRow (g + 1) 3 1 (.slice A n cap) n (cellsI zs)) (hn : 1 ≤ n) (hn2 : n ≤ 1000000) :
    Calls Try.prog 66 #[.pointer (some ⟨g, 0, none⟩), .slice A n cap] w (Drawn (fun x => x ∈ zs) g w) := by
  have H := Lib.hid h
  have HR := Lib.hid hr
  clear h hr
  go_enter Try.func66, Try.ntmps66
  go_wp2_with fail
  refine (s_l1Below _ _ _ H.out (by omega)).mono ?_
  rintro e w1 ⟨x, rfl, ⟨hx, _⟩, hc, g1⟩
  obtain ⟨hx0, hx1⟩ := hx (by omega)
  obtain ⟨k, rfl⟩ : ∃ k : Nat, x = k := ⟨x.toNat, by omega⟩
  have o1 := dr_own g1 H.out HR.out (by decide)
  obtain ⟨b, off, y, rfl, hB, hd, c0⟩ := (RdI.own o1).at_ (show k < n by omega)
  have hm : y ∈ zs := List.mem_of_mem_drop (i := k) (by rw [hd]; simp)
  have HM := Lib.hid hm
  have HC := Lib.hid hc
  clear hx hd hm o1
  go_wp2_with fail
  go_ret
  exact ⟨y, rfl, HM.out, HC.out, g1⟩

def iotaL (n : Nat) : List Int := (List.range n).map fun (i : Nat) => (i : Int)
theorem iotaL_snoc (n : Nat) : iotaL (n + 1) = iotaL n ++ [(n : Int)] := by simp [iotaL, List.range_succ]
theorem iotaL_len (n : Nat) : (iotaL n).length = n := by simp [iotaL]
theorem iotaL_perm (n : Nat) (h1 : 1 ≤ n) (h4 : n ≤ 4) : isPerm (iotaL n) = true := by
  obtain h | h | h | h : n = 1 ∨ n = 2 ∨ n = 3 ∨ n = 4 := by omega
  all_goals subst h; decide
set_option maxHeartbeats 800000 in
theorem s_IdentityPermutation (n : Nat) (w : World) (h1 : 1 ≤ n) (h4 : n ≤ 4) : Calls Try.prog 166 #[.int .i64 n] w (Ret 3 1 (cellsI (iotaL n)) n w) := by
  have hin : Hid (inB (n : Int) 1 4 = true) := Lib.hid (inB_iff.2 ⟨by omega, by omega⟩)
  go_enter Try.func166, Try.ntmps166
  go_wp2_with fail
  go_loopg [3, 4] n (fun r v i wr => ∃ (k : Nat) (A0 : Option Addr) (c0 : Nat), k + r = n ∧ i = .int .i64 k ∧ v = .slice A0 k c0 ∧ wr.ownsRow w.heap.size 3 1 (.slice A0 k c0) k (cellsI (iotaL k)) ∧ Below w.heap.size w wr)
  case atStart => exact ⟨0, _, _, by omega, rfl, rfl, World.ownsRow_lit w #[] 0 (Nat.le_refl _) (by simp [maxLen]) rfl, (Below.refl _ _).alloc (Nat.le_refl _) _⟩
  case round =>
    obtain ⟨k, A0, c0, hk, rfl, rfl, ho, hb⟩ := hrel
    have HO := Lib.hid ho
    have hs := hb.size
    clear ho
    by_cases hlt : k < n
    · go_wp2_with fail
      refine (s_in _ _ _ _).mono ?_
      rintro e w1 ⟨rfl, rfl⟩
      rw [hin.out]
      go_wp2_with (at_builtin; refine wpList_app rfl (.tmp 15) (.tmp 17) 62 rfl Try.underlying62 infoInt1 rfl (by decide) rfl (HO.out.alloc _) rfl (Rd.lit _ 3 #[.int .i64 (k : Int)] 1 1 rfl) (by simp [Value.oneCell']) (by omega) (by decide) (by simp <;> omega) ?_; intro A2 c2 w2 o2 g2)
      go_roundg (gk - 1)
      case measure => omega
      case rel => exact ⟨k + 1, A2, c2, by omega, by go_num, rfl, by rw [iotaL_snoc, cellsI_append]; exact o2, below_grown (hb.alloc hs _) (by simp <;> omega) (HO.out.alloc _) (Nat.le_refl _) g2⟩
    · go_wp2_with fail
      refine (s_in _ _ _ _).mono ?_
      rintro e w1 ⟨rfl, rfl⟩
      rw [hin.out]
      go_wp2_with fail
      go_ret
      obtain rfl : k = n := by omega
      exact ⟨A0, c0, rfl, HO.out, hb⟩

/-- New numbers drawn: what holds of them; the cursor still stands; only its block has turned. -/
def DrawnI (P : List Int → Prop) (g : Nat) (w : World) (e : Ending) (w' : World) : Prop :=
  ∃ (A : Option Addr) (n c : Nat) (zs : List Int), e = .returned (.slice A n c) ∧ zs.length = n ∧ P zs ∧ w'.ownsRow w.heap.size 3 1 (.slice A n c) n (cellsI zs) ∧ Cur w' g ∧ w.grownBy w' (some g)
theorem perm_swap {z : List Int} {i k : Nat} (h : isPerm z = true) (hi : i < z.length) (hk : k < z.length) : isPerm ((z.set i z[k]).set k z[i]) = true := by
  have hp := List.set_set_perm hi hk
  rw [isPerm_iff] at h ⊢
  obtain ⟨h1, h2, h3, h4⟩ := h
  have hl : ((z.set i z[k]).set k z[i]).length = z.length := by simp
  rw [hl]
  exact ⟨fun y hy => h1 y (hp.mem_iff.1 hy), hp.nodup_iff.2 h2, h3, h4⟩
theorem cellsI_set (z : List Int) (k : Nat) (x : Int) : (cellsI z).set k (.int .i64 x) = cellsI (z.set k x) := by simp [cellsI]

set_option maxHeartbeats 1600000 in
theorem s_l8Perm (g n : Nat) (w : World) (h : Cur w g) (h1 : 1 ≤ n) (h4 : n ≤ 4) : Calls Try.prog 136 #[.pointer (some ⟨g, 0, none⟩), .int .i64 n] w (DrawnI (fun zs => zs.length = n ∧ isPerm zs = true) g w) := by
  have H := Lib.hid h
  have hgw := h.lt
  clear h
  go_enter Try.func136, Try.ntmps136
  go_wp2_with fail
  refine (s_IdentityPermutation n _ h1 h4).mono ?_
  rintro e w1 ⟨A1, c1, rfl, o1, b1⟩
  obtain ⟨b, hA1⟩ : ∃ b, A1 = some ⟨b, 0, none⟩ := by
    rcases o1.2 with ⟨_, h0⟩ | ⟨b, cap, cur, hv, _⟩
    · omega
    · injection hv with hv _ _; exact ⟨b, hv⟩
  subst hA1
  have hbw : w.heap.size ≤ b := (o1.lt b rfl).1
  have O1 := Lib.hid o1
  have C1 := Lib.hid (H.out.below b1)
  have G1 := Lib.hid (dr_below (World.grownBy.refl w (some g)) b1)
  clear o1 b1 H
  go_wp2_with fail
  go_loopg [6] n (fun r i wr => ∃ (k : Nat) (zs : List Int), k + 1 = r ∧ k < n ∧ i = .int .i64 k ∧ zs.length = n ∧ isPerm zs = true ∧ wr.ownsRow w.heap.size 3 1 (.slice (some ⟨b, 0, none⟩) n c1) n (cellsI zs) ∧ Cur wr g ∧ w.grownBy wr (some g))
  case atStart => exact ⟨n - 1, iotaL n, by omega, by omega, by go_num, iotaL_len n, iotaL_perm n h1 h4, O1.out, C1.out, G1.out⟩
  case round =>
    clear O1 C1 G1
    obtain ⟨k, zs, hk, hkn, rfl, hzl, hp, ho, hc, hg⟩ := hrel
    have HZL := Lib.hid hzl
    have HP := Lib.hid hp
    have HO := Lib.hid ho
    have HC := Lib.hid hc
    have HG := Lib.hid hg
    clear hzl hp ho hc hg
    by_cases hk0 : 0 < k
    · go_wp2_with fail
      refine (s_l1Below _ _ _ HC.out (by omega)).mono ?_
      rintro e w2 ⟨y, rfl, ⟨hy, _⟩, hc2, g2⟩
      obtain ⟨hy0, hy1⟩ := hy (by omega)
      obtain ⟨j, rfl⟩ : ∃ j : Nat, y = j := ⟨y.toNat, by omega⟩
      have hjn : j < n := by omega
      have o2 := dr_own g2 HC.out HO.out (by decide)
      have ck := (o2.cellAt k (by omega)).trans (show (cellsI zs)[k]? = some (.int .i64 (zs[k]'(by have := HZL.out; omega))) from by simp [cellsI, HZL.out, hkn])
      have cj := (o2.cellAt j (by omega)).trans (show (cellsI zs)[j]? = some (.int .i64 (zs[j]'(by have := HZL.out; omega))) from by simp [cellsI, HZL.out, hjn])
      have fk := o2.frozenAt k
      have fj := o2.frozenAt j
      obtain ⟨xk, hxk⟩ : ∃ x, zs[k]'(by have := HZL.out; omega) = x := ⟨_, rfl⟩
      obtain ⟨xj, hxj⟩ : ∃ x, zs[j]'(by have := HZL.out; omega) = x := ⟨_, rfl⟩
      rw [hxk] at ck
      rw [hxj] at cj
      have HXK := Lib.hid hxk
      have HXJ := Lib.hid hxj
      have O2 := Lib.hid o2
      have C2 := Lib.hid hc2
      have G2 := Lib.hid (dr_trans HG.out g2)
      have hkI : (k : Int) < (n : Int) := by omega
      have hjI : (j : Int) < (n : Int) := by omega
      obtain ⟨v, hv⟩ := cell?_setCell_some (w := w2) (p := ⟨b, k, none⟩) (x := .int .i64 xj) (q := ⟨b, j, none⟩) (v := .int .i64 xj) cj
      clear hy hxk hxj o2 hc2 g2 HO HC HG
      go_wp2_with fail
      go_roundg (gk - 1)
      case measure => omega
      case rel =>
        have s1 := O2.out.stored k (.int .i64 xj)
        have s2 := s1.1.stored j (.int .i64 xk)
        rw [cellsI_set, cellsI_set] at s2
        refine ⟨k - 1, (zs.set k xj).set j xk, by omega, by omega, by go_num, by simp [HZL.out], ?_, s2.1, (C2.out.setCell (by show g < b; omega) _).setCell (by show g < b; omega) _, dr_set (dr_set G2.out hbw _) hbw _⟩
        have hp := perm_swap HP.out (i := k) (k := j) (by have := HZL.out; omega) (by have := HZL.out; omega)
        rw [HXK.out, HXJ.out] at hp
        exact hp
    · go_wp2_with fail
      go_ret
      exact ⟨_, n, c1, zs, rfl, HZL.out, ⟨HZL.out, HP.out⟩, HO.out, HC.out, HG.out⟩
end Go.Proofs.Ytibhikngiceeeaa
