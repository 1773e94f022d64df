/- Contracts of IsBasicGate, mayRoute (impl), l38Right (spec). At most 2^40 edges and numbers. -/
import Derived.Test.YtgnallcfahpjmaaRRouteP
namespace Go.Proofs.YtgnallcfahpjmaaR
open Go.RowKit

theorem i_basic (k a b c : Int) (w : World) : Calls Try.prog 162 #[.agg #[.int .i64 k, .int .i64 a, .int .i64 b, .int .i64 c]] w fun e w' => e = .returned (.bool (basicK k)) ∧ Below w.heap.size w w' := by
  cases h1 : (arity k == 1)
  · have H1 := Lib.hid h1
    go_enter Try.func162, Try.ntmps162
    go_wp2_with fail
    refine (i_Arity _ _).mono ?_
    rintro e w1 ⟨rfl, rfl⟩
    go_wp2_with fail
    go_ret
    exact ⟨ret_bool (by unfold basicK; rw [H1.out, Bool.false_or]), (Below.refl _ _).alloc (Nat.le_refl _) _⟩
  · have H1 := Lib.hid h1
    go_enter Try.func162, Try.ntmps162
    go_wp2_with fail
    refine (i_Arity _ _).mono ?_
    rintro e w1 ⟨rfl, rfl⟩
    go_wp2_with fail
    go_ret
    exact ⟨ret_bool (by unfold basicK; rw [H1.out, Bool.true_or]), (Below.refl _ _).alloc (Nat.le_refl _) _⟩
theorem s_basic (k a b c : Int) (w : World) : Calls Try.prog 164 #[.agg #[.int .i64 k, .int .i64 a, .int .i64 b, .int .i64 c]] w fun e w' => e = .returned (.bool (basicK k)) ∧ Below w.heap.size w w' := by
  cases h1 : (arity k == 1)
  · have H1 := Lib.hid h1
    go_enter Try.func164, Try.ntmps164
    go_wp2_with fail
    refine (s_Arity _ _).mono ?_
    rintro e w1 ⟨rfl, rfl⟩
    go_wp2_with fail
    go_ret
    exact ⟨ret_bool (by unfold basicK; rw [H1.out, Bool.false_or]), (Below.refl _ _).alloc (Nat.le_refl _) _⟩
  · have H1 := Lib.hid h1
    go_enter Try.func164, Try.ntmps164
    go_wp2_with fail
    refine (s_Arity _ _).mono ?_
    rintro e w1 ⟨rfl, rfl⟩
    go_wp2_with fail
    go_ret
    exact ⟨ret_bool (by unfold basicK; rw [H1.out, Bool.true_or]), (Below.refl _ _).alloc (Nat.le_refl _) _⟩

/-- The two boxes that a function with a gate and a graph lays first. -/
def TwoBx (w : World) (g : Gt) (N : Int) (B : Option Addr) (m d : Nat) (wx : World) : Prop :=
  Bx wx w.heap.size 63 #[.int .i64 g.k, .int .i64 g.a, .int .i64 g.b, .int .i64 g.c] ∧ Bx wx (w.heap.size + 1) 41 #[.int .i64 N, .slice B m d] ∧ Below w.heap.size w wx
theorem TwoBx.new (w : World) (g : Gt) (N : Int) (B : Option Addr) (m d : Nat) : TwoBx w g N B m d ((w.alloc (.cells #[.int .i64 g.k, .int .i64 g.a, .int .i64 g.b, .int .i64 g.c] 63)).alloc (.cells #[.int .i64 N, .slice B m d] 41)) :=
  ⟨(Bx.new w _ _).alloc _, Bx.new' (by simp), ((Below.refl _ _).alloc (Nat.le_refl _) _).alloc (by simp) _⟩
theorem TwoBx.below {w wx w' : World} {g : Gt} {N : Int} {B : Option Addr} {m d : Nat} (h : TwoBx w g N B m d wx) (hb : Below wx.heap.size wx w') : TwoBx w g N B m d w' := ⟨h.1.below hb, h.2.1.below hb, below_trans h.2.2 hb⟩
theorem TwoBx.drew {w wx : World} {g : Gt} {N : Int} {B : Option Addr} {m d : Nat} (h : TwoBx w g N B m d wx) : TwoBx w g N B m d wx.drew := ⟨h.1, h.2.1, h.2.2.drew⟩
theorem TwoBx.grown {w wx w' : World} {g : Gt} {N : Int} {B : Option Addr} {m d : Nat} (h : TwoBx w g N B m d wx) {base e sz n : Nat} {v : Value} {xs : List Value} (ho : wx.ownsRow base e sz v n xs) (hg : wx.grownBy w' v.ownBlock) (h1 : e ≠ 63 ∨ w.heap.size + 2 ≤ base) (h2 : e ≠ 41) (hb : w.heap.size ≤ base) : TwoBx w g N B m d w' := by
  refine ⟨?_, h.2.1.grown hg (own_bx_ne ho h.2.1 h2), below_grown h.2.2 h.2.2.size ho hb hg⟩
  rcases h1 with h1 | h1
  · exact h.1.grown hg (own_bx_ne ho h.1 h1)
  · refine h.1.grown hg fun he => ?_
    have := (ho.lt _ he.symm).1
    omega
theorem TwoBx.cells {w wx : World} {g : Gt} {N : Int} {B : Option Addr} {m d : Nat} (h : TwoBx w g N B m d wx) : wx.cell? ⟨w.heap.size, 0, none⟩ = some (.int .i64 g.k) ∧ wx.cell? ⟨w.heap.size, 1, none⟩ = some (.int .i64 g.a) ∧ wx.cell? ⟨w.heap.size, 2, none⟩ = some (.int .i64 g.b) ∧ wx.cell? ⟨w.heap.size, 3, none⟩ = some (.int .i64 g.c) ∧ wx.cell? ⟨w.heap.size + 1, 0, none⟩ = some (.int .i64 N) ∧ wx.cell? ⟨w.heap.size + 1, 1, none⟩ = some (.slice B m d) :=
  ⟨h.1.cell 0, h.1.cell 1, h.1.cell 2, h.1.cell 3, h.2.1.cell 0, h.2.1.cell 1⟩

set_option maxRecDepth 100000 in
set_option maxHeartbeats 800000 in
theorem i_mayRoute (g : Gt) (N : Int) (B : Option Addr) (m d : Nat) (ps : List (Int × Int)) (Z : Option Addr) (nz cz : Nat) (zs : List Int) (w : World) (hp : RdP w B m ps) (hm : m ≤ 1099511627776) (hz : RdI w Z nz zs) (hn : nz ≤ 1099511627776) :
    Calls Try.prog 105 #[.agg #[.int .i64 g.k, .int .i64 g.a, .int .i64 g.b, .int .i64 g.c], .agg #[.int .i64 N, .slice B m d], .slice Z nz cz] w fun e w' => e = .returned (.bool (mayR ps N zs g)) ∧ Below w.heap.size w w' := by
  have T0 := Lib.hid (TwoBx.new w g N B m d)
  have HP := Lib.hid hp
  have HZ := Lib.hid hz
  clear hp hz
  go_enter Try.func105, Try.ntmps105
  go_wp2_with fail
  refine (i_isLayout _ _ _ _ ps _ _ _ zs _ (HP.out.below T0.out.2.2) hm (HZ.out.below T0.out.2.2) hn).mono ?_
  rintro e w1 ⟨rfl, b1⟩
  have T1 := Lib.hid (T0.out.below b1)
  clear b1 T0
  cases h1 : isLay ps N zs
  · have H1 := Lib.hid h1
    clear h1
    go_wp2_with fail
    go_ret
    exact ⟨ret_bool (by unfold mayR; rw [H1.out, Bool.false_and]), T1.out.2.2⟩
  · have H1 := Lib.hid h1
    clear h1
    obtain ⟨p0, p1, p2, p3, p4, p5⟩ := T1.out.cells
    go_wp2_with fail
    refine (i_basic _ _ _ _ _).mono ?_
    rintro e w2 ⟨rfl, b2⟩
    have T2 := Lib.hid (T1.out.below b2)
    clear b2 T1 p0 p1 p2 p3 p4 p5
    cases h2 : basicK g.k
    · have H2 := Lib.hid h2
      clear h2
      go_wp2_with fail
      go_ret
      exact ⟨ret_bool (by unfold mayR; rw [H1.out, H2.out, Bool.false_and, Bool.and_false]), T2.out.2.2⟩
    · have H2 := Lib.hid h2
      clear h2
      obtain ⟨p0, p1, p2, p3, p4, p5⟩ := T2.out.cells
      go_wp2_with fail
      refine (i_IsValidGate _ _ _ _ _ _).mono ?_
      rintro e w3 ⟨rfl, b3⟩
      go_wp2_with fail
      go_ret
      exact ⟨ret_bool (by unfold mayR; rw [H1.out, H2.out, Bool.true_and, Bool.true_and]), (T2.out.below b3).2.2⟩

theorem isLay_alt (ps : List (Int × Int)) (N : Int) (zs : List Int) : isLay ps N zs = (valid ps N && (isPerm zs && ((zs.length : Int) == N))) := rfl

set_option maxRecDepth 100000 in
set_option maxHeartbeats 800000 in
theorem s_l38Right (g : Gt) (N : Int) (B : Option Addr) (m d : Nat) (ps : List (Int × Int)) (Z : Option Addr) (nz cz : Nat) (zs : List Int) (w : World) (hp : RdP w B m ps) (hm : m ≤ 1099511627776) (hz : RdI w Z nz zs) (hzc : nz ≤ cz) (hn : nz ≤ 1099511627776) :
    Calls Try.prog 107 #[.agg #[.int .i64 g.k, .int .i64 g.a, .int .i64 g.b, .int .i64 g.c], .agg #[.int .i64 N, .slice B m d], .slice Z nz cz] w fun e w' => e = .returned (.bool (mayR ps N zs g)) ∧ Below w.heap.size w w' := by
  have T0 := Lib.hid (TwoBx.new w g N B m d)
  have HP := Lib.hid hp
  have HZ := Lib.hid hz
  have HL : Hid (isLay ps N zs = (valid ps N && (isPerm zs && ((nz : Int) == N)))) := Lib.hid (by rw [isLay_alt, hz.1])
  clear hp hz
  go_enter Try.func107, Try.ntmps107
  go_wp2_with fail
  refine (s_basic _ _ _ _ _).mono ?_
  rintro e w1 ⟨rfl, b1⟩
  have T1 := Lib.hid (T0.out.below b1)
  clear b1 T0
  cases h1 : basicK g.k
  · have H1 := Lib.hid h1
    clear h1
    go_wp2_with fail
    go_ret
    exact ⟨ret_bool (by unfold mayR; rw [H1.out, Bool.false_and, Bool.and_false]), T1.out.2.2⟩
  · have H1 := Lib.hid h1
    clear h1
    obtain ⟨p0, p1, p2, p3, p4, p5⟩ := T1.out.cells
    go_wp2_with fail
    refine (s_IsValidGate _ _ _ _ _ _).mono ?_
    rintro e w2 ⟨rfl, b2⟩
    have T2 := Lib.hid (T1.out.below b2)
    clear b2 T1 p0 p1 p2 p3 p4 p5
    cases h2 : okG g.k g.a g.b g.c N
    · have H2 := Lib.hid h2
      clear h2
      go_wp2_with fail
      go_ret
      exact ⟨ret_bool (by unfold mayR; rw [H1.out, H2.out, Bool.and_false, Bool.and_false]), T2.out.2.2⟩
    · have H2 := Lib.hid h2
      clear h2
      obtain ⟨p0, p1, p2, p3, p4, p5⟩ := T2.out.cells
      go_wp2_with fail
      refine (s_IsValidGraph _ _ _ _ ps _ (HP.out.below T2.out.2.2) hm).mono ?_
      rintro e w3 ⟨rfl, b3⟩
      have T3 := Lib.hid (T2.out.below b3)
      clear b3 T2 p0 p1 p2 p3 p4 p5
      cases h3 : valid ps N
      · have H3 := Lib.hid h3
        clear h3
        go_wp2_with fail
        go_ret
        exact ⟨ret_bool (by unfold mayR; rw [HL.out, H3.out, Bool.false_and, Bool.false_and]), T3.out.2.2⟩
      · have H3 := Lib.hid h3
        clear h3
        go_wp2_with fail
        refine (s_IsPermutation _ _ _ zs _ (HZ.out.below T3.out.2.2) hzc hn).mono ?_
        rintro e w4 ⟨rfl, b4⟩
        have T4 := Lib.hid (T3.out.below b4)
        clear b4 T3
        cases h4 : isPerm zs
        · have H4 := Lib.hid h4
          clear h4
          go_wp2_with fail
          go_ret
          exact ⟨ret_bool (by unfold mayR; rw [HL.out, H4.out, Bool.false_and, Bool.and_false, Bool.false_and]), T4.out.2.2⟩
        · have H4 := Lib.hid h4
          clear h4
          obtain ⟨p0, p1, p2, p3, p4, p5⟩ := T4.out.cells
          go_wp2_with fail
          go_ret
          exact ⟨ret_bool (by unfold mayR; rw [HL.out, H1.out, H2.out, H3.out, H4.out, Bool.true_and, Bool.true_and, Bool.true_and, Bool.and_true]), T4.out.2.2⟩
end Go.Proofs.YtgnallcfahpjmaaR
