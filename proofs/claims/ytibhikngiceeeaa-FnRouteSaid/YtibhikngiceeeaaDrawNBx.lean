/- Contracts of LongRangeCX (spec and impl). The slice's capacity is at least its length. Plain: routing by swaps. Nothing is asked. Contracts of IsBasicGate, mayRoute (impl), l38Right (spec). At most 2^40 edges and numbers. Contracts of RouteGate (impl and spec). At most 2^40 edges, 2^20 numbers. How the arguments of the laws read as lists of gates, pairs, numbers and bytes. Nothing is asked. Contracts of l8Bent and DrawSwapLayout. Contracts of the drawing of graphs: l36Bent, l36Args. The cursor stands; the code has at most 2^20 bytes. -/
import Derived.Test.YtibhikngiceeeaaGateS
import Derived.Test.YtibhikngiceeeaaBase
import Derived.Test.YtibhikngiceeeaaLay
import Derived.Test.YtibhikngiceeeaaPermQ
import Derived.Test.YtibhikngiceeeaaPathP
import Derived.Test.YtibhikngiceeeaaSwapL
import Derived.Test.YtibhikngiceeeaaPath
import Derived.Test.YtibhikngiceeeaaPathI
import Derived.Test.YtibhikngiceeeaaIntS
import Derived.Test.YtibhikngiceeeaaReads
import Derived.Test.YtibhikngiceeeaaPairs
import Derived.Test.YtibhikngiceeeaaDrawP
import Derived.Test.YtibhikngiceeeaaDrawH
import Derived.Deep.RegionHeld3
import Derived.Deep.DeepCutAuto
import Derived.StillTailTactics
import Derived.ProofKit
import Derived.OpenShut
import Derived.Lib.SmallJoins
import Derived.Deep.Slices
import Derived.Deep.Fields
namespace Go.Proofs.Ytibhikngiceeeaa
open Go.RowKit

def lrc : List Int → List Gt
  | x :: y :: z :: r => (⟨9, x, y, 0⟩ :: lrc (y :: z :: r)) ++ (⟨9, x, y, 0⟩ :: lrc (y :: z :: r))
  | [x, y] => [⟨9, x, y, 0⟩]
  | _ => []
def longCX (zs : List Int) : List Gt := if 2 ≤ zs.length ∧ zs.length ≤ 4 then lrc zs else []
theorem longCX_out {zs : List Int} (h : zs.length < 2 ∨ 4 < zs.length) : longCX zs = [] := by unfold longCX; rw [if_neg (by omega)]
theorem longCX_len (zs : List Int) : (longCX zs).length ≤ 10 := by
  unfold longCX
  split
  · rename_i h
    match zs, h with
    | [x, y], _ => simp [lrc]
    | [x, y, z], _ => simp [lrc]
    | [x, y, z, u], _ => simp [lrc]
    | _ :: _ :: _ :: _ :: _ :: _, h => simp at h
  · simp









end Go.Proofs.Ytibhikngiceeeaa
namespace Go.Proofs.Ytibhikngiceeeaa

def basicK (k : Int) : Bool := arity k == 1 || k == 9
def mayR (ps : List (Int × Int)) (N : Int) (zs : List Int) (g : Gt) : Bool := isLay ps N zs && (basicK g.k && okG g.k g.a g.b g.c N)
def zAt (zs : List Int) (q : Int) : Int := zs.getD q.toNat 0
/-- The second place of the shortest way. -/
def way1 (ps : List (Int × Int)) (N a b : Int) : Int := (spath ps N a b).getD 1 0
def rtS (ps : List (Int × Int)) (N qa qb : Int) : Nat → List Int → List Gt × List Int
  | 0, z => ([⟨9, zAt z qa, zAt z qb, 0⟩], z)
  | f + 1, z => if gd ps N (zAt z qa) (zAt z qb) ≤ 1 then ([⟨9, zAt z qa, zAt z qb, 0⟩], z) else
      let r := rtS ps N qa qb f (swapL z (zAt z qa) (way1 ps N (zAt z qa) (zAt z qb)))
      (⟨11, zAt z qa, way1 ps N (zAt z qa) (zAt z qb), 0⟩ :: r.1, r.2)
theorem rt_far {ps : List (Int × Int)} {N qa qb : Int} {f : Nat} {z : List Int} (h : 1 < gd ps N (zAt z qa) (zAt z qb)) :
    rtS ps N qa qb (f + 1) z = (⟨11, zAt z qa, way1 ps N (zAt z qa) (zAt z qb), 0⟩ :: (rtS ps N qa qb f (swapL z (zAt z qa) (way1 ps N (zAt z qa) (zAt z qb)))).1, (rtS ps N qa qb f (swapL z (zAt z qa) (way1 ps N (zAt z qa) (zAt z qb)))).2) := by
  rw [rtS, if_neg (by omega)]
theorem rt_near {ps : List (Int × Int)} {N qa qb : Int} {f : Nat} {z : List Int} (h : gd ps N (zAt z qa) (zAt z qb) ≤ 1) : rtS ps N qa qb f z = ([⟨9, zAt z qa, zAt z qb, 0⟩], z) := by
  cases f with
  | zero => rfl
  | succ f => rw [rtS, if_pos h]
theorem rt_len (ps : List (Int × Int)) (N qa qb : Int) : ∀ (f : Nat) (z : List Int), (rtS ps N qa qb f z).1.length ≤ f + 1
  | 0, z => by simp [rtS]
  | f + 1, z => by
    rw [rtS]
    split
    · simp
    · have := rt_len ps N qa qb f (swapL z (zAt z qa) (way1 ps N (zAt z qa) (zAt z qb)))
      simp only [List.length_cons]
      omega
def routeG (ps : List (Int × Int)) (N : Int) (zs : List Int) (g : Gt) : List Gt × List Int :=
  if mayR ps N zs g = true then (if (arity g.k == 1) = true then ([⟨g.k, zAt zs g.a, 0, 0⟩], zs) else rtS ps N g.a g.b 3 zs) else ([], zs)
def rtsL (ps : List (Int × Int)) (N : Int) : List Gt → List Int → List Gt → List Gt × List Int × Bool
  | [], z, acc => (acc, z, true)
  | g :: r, z, acc => if mayR ps N z g = true then rtsL ps N r (routeG ps N z g).2 (acc ++ (routeG ps N z g).1) else ([], [], false)
def routeGs (ps : List (Int × Int)) (N : Int) (zs : List Int) (gs : List Gt) : List Gt × List Int × Bool := if isLay ps N zs = true then rtsL ps N gs zs [] else ([], [], false)
def brL (ps : List (Int × Int)) (N : Int) (z : List Int) : List Gt → List Gt → List Gt × Bool
  | [], acc => (acc, true)
  | g :: r, acc => if mayR ps N z g = true then brL ps N z r (acc ++ (if (arity g.k == 1) = true then [⟨g.k, zAt z g.a, 0, 0⟩] else longCX (spath ps N (zAt z g.a) (zAt z g.b)))) else ([], false)
def bridgeGs (ps : List (Int × Int)) (N : Int) (zs : List Int) (gs : List Gt) : List Gt × Bool := if isLay ps N zs = true then brL ps N zs gs [] else ([], false)

theorem sw_sw (a b x : Int) : sw a b (sw a b x) = x := by
  unfold sw
  by_cases h1 : x = a
  · subst h1
    rw [if_pos rfl]
    by_cases h2 : b = x
    · rw [if_pos h2, h2]
    · rw [if_neg h2, if_pos rfl]
  · rw [if_neg h1]
    by_cases h2 : x = b
    · subst h2
      rw [if_pos rfl, if_pos rfl]
    · rw [if_neg h2, if_neg h1, if_neg h2]
theorem sw_inj {a b x y : Int} (h : sw a b x = sw a b y) : x = y := by rw [← sw_sw a b x, h, sw_sw]
theorem isPerm_swap {z : List Int} {a b : Int} (h : isPerm z = true) (ha : 0 ≤ a) (ha2 : a < z.length) (hb : 0 ≤ b) (hb2 : b < z.length) : isPerm (swapL z a b) = true ∧ (swapL z a b).length = z.length := by
  have e : swapL z a b = z.map (sw a b) := by unfold swapL; rw [if_pos h]
  have hl : (swapL z a b).length = z.length := by rw [e, List.length_map]
  refine ⟨?_, hl⟩
  obtain ⟨h1, h2, h3, h4⟩ := (isPerm_iff z).1 h
  rw [isPerm_iff, hl]
  refine ⟨?_, ?_, h3, h4⟩
  · intro y hy
    rw [e, List.mem_map] at hy
    obtain ⟨x, hx, rfl⟩ := hy
    have := h1 x hx
    unfold sw
    split
    · omega
    · split <;> omega
  · rw [e, List.nodup_iff_pairwise_ne, List.pairwise_map]
    rw [List.nodup_iff_pairwise_ne] at h2
    exact h2.imp fun hn he => hn (sw_inj he)
theorem isLay_swap {ps : List (Int × Int)} {N : Int} {z : List Int} {a b : Int} (h : isLay ps N z = true) (ha : 0 ≤ a) (ha2 : a < N) (hb : 0 ≤ b) (hb2 : b < N) : isLay ps N (swapL z a b) = true := by
  unfold isLay at h ⊢
  simp only [Bool.and_eq_true, beq_iff_eq] at h ⊢
  obtain ⟨h1, h2, h3⟩ := h
  have := isPerm_swap h2 ha (by omega) hb (by omega)
  exact ⟨h1, this.1, by rw [this.2]; exact h3⟩
theorem isLay_len {ps : List (Int × Int)} {N : Int} {z : List Int} (h : isLay ps N z = true) : (z.length : Int) = N ∧ isPerm z = true ∧ 1 ≤ N ∧ N ≤ 4 := by
  unfold isLay at h
  simp only [Bool.and_eq_true, beq_iff_eq] at h
  have := isPerm_len h.2.1
  exact ⟨h.2.2, h.2.1, by omega, by omega⟩
theorem zAt_rng {ps : List (Int × Int)} {N : Int} {z : List Int} {q : Int} (h : isLay ps N z = true) (_ : 0 ≤ q) (h1 : q < N) : 0 ≤ zAt z q ∧ zAt z q < N := by
  obtain ⟨e1, e2, e3, e4⟩ := isLay_len h
  obtain ⟨h5, _⟩ := (isPerm_iff z).1 e2
  have hl : q.toNat < z.length := by omega
  have := h5 z[q.toNat] (List.getElem_mem hl)
  unfold zAt
  rw [List.getD_eq_getElem?_getD, List.getElem?_eq_getElem hl, Option.getD_some]
  omega
theorem zAt_swap {z : List Int} {a b q : Int} (h : isPerm z = true) (hq : q.toNat < z.length) : zAt (swapL z a b) q = sw a b (zAt z q) := by
  unfold zAt swapL
  rw [if_pos h, List.getD_eq_getElem?_getD, List.getD_eq_getElem?_getD, List.getElem?_map, List.getElem?_eq_getElem hq]
  rfl
theorem gd_self {ps : List (Int × Int)} {N a : Nat} (hN1 : 1 ≤ N) (hN4 : N ≤ 4) (ha : a < N) : gd ps N a a = 0 := by
  rw [gd_inS (by omega) (by omega) (by omega) (by omega) (by omega) (by omega)]
  unfold gdS
  rw [Int.toNat_natCast]
  exact sF_hit (mat ps) N a 0 N [(a : Int)] (by omega) (by omega) (by simp [hasI0])
/-- One swap on the way. -/
theorem step_ok {ps : List (Int × Int)} {N : Int} {z : List Int} {qa qb : Int} (h : isLay ps N z = true) (ha0 : 0 ≤ qa) (ha1 : qa < N) (hb0 : 0 ≤ qb) (hb1 : qb < N) (hd : 1 < gd ps N (zAt z qa) (zAt z qb)) :
    ∃ rest, spath ps N (zAt z qa) (zAt z qb) = zAt z qa :: way1 ps N (zAt z qa) (zAt z qb) :: rest ∧ 0 ≤ way1 ps N (zAt z qa) (zAt z qb) ∧ way1 ps N (zAt z qa) (zAt z qb) < N ∧
      isLay ps N (swapL z (zAt z qa) (way1 ps N (zAt z qa) (zAt z qb))) = true ∧
      gd ps N (zAt (swapL z (zAt z qa) (way1 ps N (zAt z qa) (zAt z qb))) qa) (zAt (swapL z (zAt z qa) (way1 ps N (zAt z qa) (zAt z qb))) qb) = gd ps N (zAt z qa) (zAt z qb) - 1 := by
  obtain ⟨e1, e2, e3, e4⟩ := isLay_len h
  have hra := zAt_rng h ha0 ha1
  have hrb := zAt_rng h hb0 hb1
  obtain ⟨a, hA⟩ : ∃ a, zAt z qa = a := ⟨_, rfl⟩
  obtain ⟨b, hB⟩ : ∃ b, zAt z qb = b := ⟨_, rfl⟩
  rw [hA] at hra
  rw [hB] at hrb
  rw [hA, hB] at hd ⊢
  obtain ⟨n, rfl⟩ : ∃ n : Nat, N = n := ⟨N.toNat, by omega⟩
  obtain ⟨a, rfl⟩ : ∃ k : Nat, a = k := ⟨a.toNat, by omega⟩
  obtain ⟨b, rfl⟩ : ∃ k : Nat, b = k := ⟨b.toNat, by omega⟩
  obtain ⟨d, hD⟩ : ∃ d : Nat, gd ps n a b = ((d + 1 : Nat) : Int) := ⟨(gd ps n a b).toNat - 1, by omega⟩
  obtain ⟨x, hx1, hx2, hx3, hx4⟩ := nxt_ok (by omega) (by omega) (by omega) (by omega) hD
  have hp : spath ps n a b = (a : Int) :: (x : Int) :: pS ps n b d x := by
    unfold spath
    rw [hD, if_neg (by omega), Int.toNat_natCast, pS_step hx1]
  have hw : way1 ps n a b = x := by unfold way1; rw [hp]; rfl
  rw [hw]
  have hab : a ≠ b := by
    rintro rfl
    rw [gd_self (by omega) (by omega) (by omega)] at hD
    omega
  have hxb : x ≠ b := by
    rintro rfl
    rw [gd_self (by omega) (by omega) (by omega)] at hx4
    omega
  refine ⟨_, hp, by omega, by omega, isLay_swap h (by omega) (by omega) (by omega) (by omega), ?_⟩
  rw [zAt_swap e2 (by omega), zAt_swap e2 (by omega), hA, hB]
  have s1 : sw (a : Int) x a = x := by unfold sw; rw [if_pos rfl]
  have s2 : sw (a : Int) x b = b := by unfold sw; rw [if_neg (by omega), if_neg (by omega)]
  rw [s1, s2, hx4, hD]
  omega
theorem basic_kind {k : Int} (h : basicK k = true) (h1 : (arity k == 1) = false) : k = 9 := by
  unfold basicK at h
  rw [h1, Bool.false_or] at h
  simpa using h
theorem basic_ne {k : Int} (h1 : (arity k == 1) = true) : k ≠ 9 := by
  rintro rfl
  revert h1
  decide
theorem ar9 : arity 9 = 2 := by decide
theorem mayR_parts {ps : List (Int × Int)} {N : Int} {z : List Int} {g : Gt} (h : mayR ps N z g = true) : isLay ps N z = true ∧ basicK g.k = true ∧ okG g.k g.a g.b g.c N = true := by
  unfold mayR at h
  simpa [Bool.and_eq_true] using h
theorem mayR_a {ps : List (Int × Int)} {N : Int} {z : List Int} {g : Gt} (h : mayR ps N z g = true) : 0 ≤ g.a ∧ g.a < N := okG_a (mayR_parts h).2.2
theorem mayR_b {ps : List (Int × Int)} {N : Int} {z : List Int} {g : Gt} (h : mayR ps N z g = true) (h1 : (arity g.k == 1) = false) : 0 ≤ g.b ∧ g.b < N := by
  have h9 := basic_kind (mayR_parts h).2.1 h1
  exact okG_b (mayR_parts h).2.2 (by rw [h9, ar9]; omega)
theorem rt_lay {ps : List (Int × Int)} {N qa qb : Int} (ha0 : 0 ≤ qa) (ha1 : qa < N) (hb0 : 0 ≤ qb) (hb1 : qb < N) : ∀ (f : Nat) (z : List Int), isLay ps N z = true → isLay ps N (rtS ps N qa qb f z).2 = true
  | 0, z, h => h
  | f + 1, z, h => by
    by_cases hd : 1 < gd ps N (zAt z qa) (zAt z qb)
    · obtain ⟨_, _, _, _, hs, _⟩ := step_ok h ha0 ha1 hb0 hb1 hd
      rw [rt_far hd]
      exact rt_lay ha0 ha1 hb0 hb1 f _ hs
    · rw [rt_near (by omega)]
      exact h
theorem routeG_lay {ps : List (Int × Int)} {N : Int} {z : List Int} {g : Gt} (h : isLay ps N z = true) : isLay ps N (routeG ps N z g).2 = true := by
  unfold routeG
  by_cases hm : mayR ps N z g = true
  · rw [if_pos hm]
    cases h1 : (arity g.k == 1)
    · rw [if_neg (by simp)]
      obtain ⟨a0, a1⟩ := mayR_a hm
      obtain ⟨b0, b1⟩ := mayR_b hm h1
      exact rt_lay a0 a1 b0 b1 3 z h
    · rw [if_pos rfl]
      exact h
  · rw [if_neg hm]
    exact h
theorem routeG_len (ps : List (Int × Int)) (N : Int) (z : List Int) (g : Gt) : (routeG ps N z g).1.length ≤ 4 := by
  unfold routeG
  split
  · split
    · simp
    · exact rt_len ps N g.a g.b 3 z
  · simp
theorem routeG_row {ps : List (Int × Int)} {N : Int} {z : List Int} {g : Gt} (h : isLay ps N z = true) : (routeG ps N z g).2.length ≤ 4 := by
  have := isLay_len (routeG_lay (g := g) h)
  omega
end Go.Proofs.Ytibhikngiceeeaa
namespace Go.Proofs.Ytibhikngiceeeaa
open Go.RowKit

theorem i_basic (k a b c : Int) (w : World) : Calls Try.prog 139 #[.agg #[.int .i64 k, .int .i64 a, .int .i64 b, .int .i64 c]] w fun e w' => e = .returned (.bool (basicK k)) ∧ Below w.heap.size w w' := by
  cases h1 : (arity k == 1)
  · have H1 := Lib.hid h1
    go_enter Try.func139, Try.ntmps139
    go_wp2_with fail
    refine (i_Arity _ _).mono ?_
    rintro e w1 ⟨rfl, rfl⟩
    go_wp2_with fail
    go_ret
    exact ⟨ret_bool (by unfold basicK; rw [H1.out, Bool.false_or]), (Below.refl _ _).alloc (Nat.le_refl _) _⟩
  · have H1 := Lib.hid h1
    go_enter Try.func139, Try.ntmps139
    go_wp2_with fail
    refine (i_Arity _ _).mono ?_
    rintro e w1 ⟨rfl, rfl⟩
    go_wp2_with fail
    go_ret
    exact ⟨ret_bool (by unfold basicK; rw [H1.out, Bool.true_or]), (Below.refl _ _).alloc (Nat.le_refl _) _⟩
theorem s_basic (k a b c : Int) (w : World) : Calls Try.prog 146 #[.agg #[.int .i64 k, .int .i64 a, .int .i64 b, .int .i64 c]] w fun e w' => e = .returned (.bool (basicK k)) ∧ Below w.heap.size w w' := by
  cases h1 : (arity k == 1)
  · have H1 := Lib.hid h1
    go_enter Try.func146, Try.ntmps146
    go_wp2_with fail
    refine (s_Arity _ _).mono ?_
    rintro e w1 ⟨rfl, rfl⟩
    go_wp2_with fail
    go_ret
    exact ⟨ret_bool (by unfold basicK; rw [H1.out, Bool.false_or]), (Below.refl _ _).alloc (Nat.le_refl _) _⟩
  · have H1 := Lib.hid h1
    go_enter Try.func146, Try.ntmps146
    go_wp2_with fail
    refine (s_Arity _ _).mono ?_
    rintro e w1 ⟨rfl, rfl⟩
    go_wp2_with fail
    go_ret
    exact ⟨ret_bool (by unfold basicK; rw [H1.out, Bool.true_or]), (Below.refl _ _).alloc (Nat.le_refl _) _⟩

/-- The two boxes that a function with a gate and a graph lays first. -/
def TwoBx (w : World) (g : Gt) (N : Int) (B : Option Addr) (m d : Nat) (wx : World) : Prop :=
  Bx wx w.heap.size 55 #[.int .i64 g.k, .int .i64 g.a, .int .i64 g.b, .int .i64 g.c] ∧ Bx wx (w.heap.size + 1) 61 #[.int .i64 N, .slice B m d] ∧ Below w.heap.size w wx
theorem TwoBx.new (w : World) (g : Gt) (N : Int) (B : Option Addr) (m d : Nat) : TwoBx w g N B m d ((w.alloc (.cells #[.int .i64 g.k, .int .i64 g.a, .int .i64 g.b, .int .i64 g.c] 55)).alloc (.cells #[.int .i64 N, .slice B m d] 61)) :=
  ⟨(Bx.new w _ _).alloc _, Bx.new' (by simp), ((Below.refl _ _).alloc (Nat.le_refl _) _).alloc (by simp) _⟩
theorem TwoBx.below {w wx w' : World} {g : Gt} {N : Int} {B : Option Addr} {m d : Nat} (h : TwoBx w g N B m d wx) (hb : Below wx.heap.size wx w') : TwoBx w g N B m d w' := ⟨h.1.below hb, h.2.1.below hb, below_trans h.2.2 hb⟩
theorem TwoBx.drew {w wx : World} {g : Gt} {N : Int} {B : Option Addr} {m d : Nat} (h : TwoBx w g N B m d wx) : TwoBx w g N B m d wx.drew := ⟨h.1, h.2.1, h.2.2.drew⟩
theorem TwoBx.grown {w wx w' : World} {g : Gt} {N : Int} {B : Option Addr} {m d : Nat} (h : TwoBx w g N B m d wx) {base e sz n : Nat} {v : Value} {xs : List Value} (ho : wx.ownsRow base e sz v n xs) (hg : wx.grownBy w' v.ownBlock) (h1 : e ≠ 55 ∨ w.heap.size + 2 ≤ base) (h2 : e ≠ 61) (hb : w.heap.size ≤ base) : TwoBx w g N B m d w' := by
  refine ⟨?_, h.2.1.grown hg (own_bx_ne ho h.2.1 h2), below_grown h.2.2 h.2.2.size ho hb hg⟩
  rcases h1 with h1 | h1
  · exact h.1.grown hg (own_bx_ne ho h.1 h1)
  · refine h.1.grown hg fun he => ?_
    have := (ho.lt _ he.symm).1
    omega
theorem TwoBx.cells {w wx : World} {g : Gt} {N : Int} {B : Option Addr} {m d : Nat} (h : TwoBx w g N B m d wx) : wx.cell? ⟨w.heap.size, 0, none⟩ = some (.int .i64 g.k) ∧ wx.cell? ⟨w.heap.size, 1, none⟩ = some (.int .i64 g.a) ∧ wx.cell? ⟨w.heap.size, 2, none⟩ = some (.int .i64 g.b) ∧ wx.cell? ⟨w.heap.size, 3, none⟩ = some (.int .i64 g.c) ∧ wx.cell? ⟨w.heap.size + 1, 0, none⟩ = some (.int .i64 N) ∧ wx.cell? ⟨w.heap.size + 1, 1, none⟩ = some (.slice B m d) :=
  ⟨h.1.cell 0, h.1.cell 1, h.1.cell 2, h.1.cell 3, h.2.1.cell 0, h.2.1.cell 1⟩

set_option maxRecDepth 100000 in
set_option maxHeartbeats 800000 in
theorem i_mayRoute (g : Gt) (N : Int) (B : Option Addr) (m d : Nat) (ps : List (Int × Int)) (Z : Option Addr) (nz cz : Nat) (zs : List Int) (w : World) (hp : RdP w B m ps) (hm : m ≤ 1099511627776) (hz : RdI w Z nz zs) (hn : nz ≤ 1099511627776) :
    Calls Try.prog 90 #[.agg #[.int .i64 g.k, .int .i64 g.a, .int .i64 g.b, .int .i64 g.c], .agg #[.int .i64 N, .slice B m d], .slice Z nz cz] w fun e w' => e = .returned (.bool (mayR ps N zs g)) ∧ Below w.heap.size w w' := by
  have T0 := Lib.hid (TwoBx.new w g N B m d)
  have HP := Lib.hid hp
  have HZ := Lib.hid hz
  clear hp hz
  go_enter Try.func90, Try.ntmps90
  go_wp2_with fail
  refine (i_isLayout _ _ _ _ ps _ _ _ zs _ (HP.out.below T0.out.2.2) hm (HZ.out.below T0.out.2.2) hn).mono ?_
  rintro e w1 ⟨rfl, b1⟩
  have T1 := Lib.hid (T0.out.below b1)
  clear b1 T0
  cases h1 : isLay ps N zs
  · have H1 := Lib.hid h1
    clear h1
    go_wp2_with fail
    go_ret
    exact ⟨ret_bool (by unfold mayR; rw [H1.out, Bool.false_and]), T1.out.2.2⟩
  · have H1 := Lib.hid h1
    clear h1
    obtain ⟨p0, p1, p2, p3, p4, p5⟩ := T1.out.cells
    go_wp2_with fail
    refine (i_basic _ _ _ _ _).mono ?_
    rintro e w2 ⟨rfl, b2⟩
    have T2 := Lib.hid (T1.out.below b2)
    clear b2 T1 p0 p1 p2 p3 p4 p5
    cases h2 : basicK g.k
    · have H2 := Lib.hid h2
      clear h2
      go_wp2_with fail
      go_ret
      exact ⟨ret_bool (by unfold mayR; rw [H1.out, H2.out, Bool.false_and, Bool.and_false]), T2.out.2.2⟩
    · have H2 := Lib.hid h2
      clear h2
      obtain ⟨p0, p1, p2, p3, p4, p5⟩ := T2.out.cells
      go_wp2_with fail
      refine (i_IsValidGate _ _ _ _ _ _).mono ?_
      rintro e w3 ⟨rfl, b3⟩
      go_wp2_with fail
      go_ret
      exact ⟨ret_bool (by unfold mayR; rw [H1.out, H2.out, Bool.true_and, Bool.true_and]), (T2.out.below b3).2.2⟩

theorem isLay_alt (ps : List (Int × Int)) (N : Int) (zs : List Int) : isLay ps N zs = (valid ps N && (isPerm zs && ((zs.length : Int) == N))) := rfl

set_option maxRecDepth 100000 in
set_option maxHeartbeats 800000 in
theorem s_l38Right (g : Gt) (N : Int) (B : Option Addr) (m d : Nat) (ps : List (Int × Int)) (Z : Option Addr) (nz cz : Nat) (zs : List Int) (w : World) (hp : RdP w B m ps) (hm : m ≤ 1099511627776) (hz : RdI w Z nz zs) (hzc : nz ≤ cz) (hn : nz ≤ 1099511627776) :
    Calls Try.prog 94 #[.agg #[.int .i64 g.k, .int .i64 g.a, .int .i64 g.b, .int .i64 g.c], .agg #[.int .i64 N, .slice B m d], .slice Z nz cz] w fun e w' => e = .returned (.bool (mayR ps N zs g)) ∧ Below w.heap.size w w' := by
  have T0 := Lib.hid (TwoBx.new w g N B m d)
  have HP := Lib.hid hp
  have HZ := Lib.hid hz
  have HL : Hid (isLay ps N zs = (valid ps N && (isPerm zs && ((nz : Int) == N)))) := Lib.hid (by rw [isLay_alt, hz.1])
  clear hp hz
  go_enter Try.func94, Try.ntmps94
  go_wp2_with fail
  refine (s_basic _ _ _ _ _).mono ?_
  rintro e w1 ⟨rfl, b1⟩
  have T1 := Lib.hid (T0.out.below b1)
  clear b1 T0
  cases h1 : basicK g.k
  · have H1 := Lib.hid h1
    clear h1
    go_wp2_with fail
    go_ret
    exact ⟨ret_bool (by unfold mayR; rw [H1.out, Bool.false_and, Bool.and_false]), T1.out.2.2⟩
  · have H1 := Lib.hid h1
    clear h1
    obtain ⟨p0, p1, p2, p3, p4, p5⟩ := T1.out.cells
    go_wp2_with fail
    refine (s_IsValidGate _ _ _ _ _ _).mono ?_
    rintro e w2 ⟨rfl, b2⟩
    have T2 := Lib.hid (T1.out.below b2)
    clear b2 T1 p0 p1 p2 p3 p4 p5
    cases h2 : okG g.k g.a g.b g.c N
    · have H2 := Lib.hid h2
      clear h2
      go_wp2_with fail
      go_ret
      exact ⟨ret_bool (by unfold mayR; rw [H1.out, H2.out, Bool.and_false, Bool.and_false]), T2.out.2.2⟩
    · have H2 := Lib.hid h2
      clear h2
      obtain ⟨p0, p1, p2, p3, p4, p5⟩ := T2.out.cells
      go_wp2_with fail
      refine (s_IsValidGraph _ _ _ _ ps _ (HP.out.below T2.out.2.2) hm).mono ?_
      rintro e w3 ⟨rfl, b3⟩
      have T3 := Lib.hid (T2.out.below b3)
      clear b3 T2 p0 p1 p2 p3 p4 p5
      cases h3 : valid ps N
      · have H3 := Lib.hid h3
        clear h3
        go_wp2_with fail
        go_ret
        exact ⟨ret_bool (by unfold mayR; rw [HL.out, H3.out, Bool.false_and, Bool.false_and]), T3.out.2.2⟩
      · have H3 := Lib.hid h3
        clear h3
        go_wp2_with fail
        refine (s_IsPermutation _ _ _ zs _ (HZ.out.below T3.out.2.2) hzc hn).mono ?_
        rintro e w4 ⟨rfl, b4⟩
        have T4 := Lib.hid (T3.out.below b4)
        clear b4 T3
        cases h4 : isPerm zs
        · have H4 := Lib.hid h4
          clear h4
          go_wp2_with fail
          go_ret
          exact ⟨ret_bool (by unfold mayR; rw [HL.out, H4.out, Bool.false_and, Bool.and_false, Bool.false_and]), T4.out.2.2⟩
        · have H4 := Lib.hid h4
          clear h4
          obtain ⟨p0, p1, p2, p3, p4, p5⟩ := T4.out.cells
          go_wp2_with fail
          go_ret
          exact ⟨ret_bool (by unfold mayR; rw [HL.out, H1.out, H2.out, H3.out, H4.out, Bool.true_and, Bool.true_and, Bool.true_and, Bool.and_true]), T4.out.2.2⟩
end Go.Proofs.Ytibhikngiceeeaa
namespace Go.Proofs.Ytibhikngiceeeaa
open Go.RowKit

/-- What a function that hands back new gates and new numbers comes to. -/
def RetGI (gs : List Gt) (zs : List Int) (w : World) (e : Ending) (w' : World) : Prop :=
  ∃ (A : Option Addr) (c : Nat) (A' : Option Addr) (c' : Nat), e = .returned (.tuple #[.slice A gs.length c, .slice A' zs.length c']) ∧ w'.ownsRow w.heap.size 55 4 (.slice A gs.length c) gs.length (cellsG gs) ∧ w'.ownsRow w.heap.size 3 1 (.slice A' zs.length c') zs.length (cellsI zs) ∧ Below w.heap.size w w'
theorem retGI {gs : List Gt} {zs : List Int} {w w' : World} {A A' : Option Addr} {n n' c c' b b' : Nat} (hn : gs.length = n) (hn' : zs.length = n') (h1 : w'.ownsRow b 55 4 (.slice A n c) n (cellsG gs)) (hb : w.heap.size ≤ b) (h2 : w'.ownsRow b' 3 1 (.slice A' n' c') n' (cellsI zs)) (hb' : w.heap.size ≤ b') (hB : Below w.heap.size w w') :
    RetGI gs zs w (.returned (.tuple #[.slice A n c, .slice A' n' c'])) w' := by
  subst hn hn'
  exact ⟨A, c, A', c', rfl, ownsRow_base h1 hb, ownsRow_base h2 hb', hB⟩
theorem routeG_no {ps : List (Int × Int)} {N : Int} {z : List Int} {g : Gt} (h : mayR ps N z g = false) : routeG ps N z g = ([], z) := by unfold routeG; rw [if_neg (by rw [h]; simp)]
theorem routeG_one {ps : List (Int × Int)} {N : Int} {z : List Int} {g : Gt} (h : mayR ps N z g = true) (h1 : (arity g.k == 1) = true) : routeG ps N z g = ([⟨g.k, zAt z g.a, 0, 0⟩], z) := by unfold routeG; rw [if_pos h, if_pos h1]
theorem routeG_two {ps : List (Int × Int)} {N : Int} {z : List Int} {g : Gt} (h : mayR ps N z g = true) (h1 : (arity g.k == 1) = false) : routeG ps N z g = rtS ps N g.a g.b 3 z := by unfold routeG; rw [if_pos h, if_neg (by rw [h1]; simp)]
theorem zAt_nat (z : List Int) {q : Int} {k : Nat} (h : q = k) : zAt z q = z.getD k 0 := by subst h; unfold zAt; rw [Int.toNat_natCast]
theorem swapN_perm {z : List Int} (h : isPerm z = true) : swapN z = z.length := by unfold swapN; rw [if_pos h]
theorem spN_eq {ps : List (Int × Int)} {N a b : Int} (h : 0 ≤ gd ps N a b) : spN ps N a b = (spath ps N a b).length := by
  unfold spN spath
  rw [if_neg (by omega), List.length_cons, spath_len]
  omega
theorem way_cells {w : World} {base e n c : Nat} {A : Option Addr} {x y : Int} {r : List Int} (h : w.ownsRow base e 1 (.slice A n c) n (cellsI (x :: y :: r))) : ∃ b f, A = some ⟨b, f, none⟩ ∧ b < w.heap.size ∧ w.cell? ⟨b, f, none⟩ = some (.int .i64 x) ∧ w.cell? ⟨b, f + 1, none⟩ = some (.int .i64 y) := by
  have hr := RdI.own h
  have hl := hr.1
  simp only [List.length_cons] at hl
  obtain ⟨b, f, e, hb, hc⟩ := hr.2.2 (by omega)
  exact ⟨b, f, e, hb, hc 0 _ rfl, hc 1 _ rfl⟩
theorem way_at {w : World} {base e n c b f : Nat} {x y : Int} {r : List Int} (h : w.ownsRow base e 1 (.slice (some ⟨b, f, none⟩) n c) n (cellsI (x :: y :: r))) : b < w.heap.size ∧ w.cell? ⟨b, f, none⟩ = some (.int .i64 x) ∧ w.cell? ⟨b, f + 1, none⟩ = some (.int .i64 y) := by
  obtain ⟨b', f', e, hb, h0, h1⟩ := way_cells h
  injection e with e
  injection e with e1 e2 _
  subst e1 e2
  exact ⟨hb, h0, h1⟩
theorem row_at {w : World} {base e n c b f k : Nat} {zl : List Int} (h : w.ownsRow base e 1 (.slice (some ⟨b, f, none⟩) n c) n (cellsI zl)) (hk : k < n) : b < w.heap.size ∧ w.cell? ⟨b, f + k, none⟩ = some (.int .i64 (zl.getD k 0)) := by
  obtain ⟨b', f', x, e, hb, hd, hc⟩ := (RdI.own h).at_ hk
  injection e with e
  injection e with e1 e2 _
  subst e1 e2
  rw [drop_getD hd]
  exact ⟨hb, hc⟩
theorem TwoBx.cellA {w wx : World} {g : Gt} {N : Int} {B : Option Addr} {m d k : Nat} (h : TwoBx w g N B m d wx) (hk : g.a = k) : wx.cell? ⟨w.heap.size, 1, none⟩ = some (.int .i64 (k : Int)) := by rw [h.cells.2.1, hk]
theorem TwoBx.cellB {w wx : World} {g : Gt} {N : Int} {B : Option Addr} {m d k : Nat} (h : TwoBx w g N B m d wx) (hk : g.b = k) : wx.cell? ⟨w.heap.size, 2, none⟩ = some (.int .i64 (k : Int)) := by rw [h.cells.2.2.1, hk]
theorem row_atz {w : World} {base e n c b f k : Nat} {zl : List Int} {q x : Int} (h : w.ownsRow base e 1 (.slice (some ⟨b, f, none⟩) n c) n (cellsI zl)) (hk : k < n) (hq : q = k) (hx : zAt zl q = x) : w.cell? ⟨b, f + k, none⟩ = some (.int .i64 x) := by
  rw [(row_at h hk).2, ← hx, zAt_nat zl hq]
theorem one_cellsG1 (k a b c : Int) : [Value.int .i64 k, .int .i64 a, .int .i64 b, .int .i64 c] = cellsG [⟨k, a, b, c⟩] := rfl

set_option maxRecDepth 100000 in
set_option maxHeartbeats 6400000 in
theorem i_RouteGate (g : Gt) (N : Int) (B : Option Addr) (m d : Nat) (ps : List (Int × Int)) (Z : Option Addr) (nz cz : Nat) (zs : List Int) (w : World) (hp : RdP w B m ps) (hm : m ≤ 1099511627776) (hz : RdI w Z nz zs) (hn : nz ≤ 1048576) :
    Calls Try.prog 91 #[.agg #[.int .i64 g.k, .int .i64 g.a, .int .i64 g.b, .int .i64 g.c], .agg #[.int .i64 N, .slice B m d], .slice Z nz cz] w (RetGI (routeG ps N zs g).1 (routeG ps N zs g).2 w) := by
  have T0 := Lib.hid (TwoBx.new w g N B m d)
  have HP := Lib.hid hp
  have HZ := Lib.hid hz
  have hzl := hz.1
  have HZL := Lib.hid hzl
  clear hp hz hzl
  have OL := Lib.hid (show (((w.alloc (.cells #[.int .i64 g.k, .int .i64 g.a, .int .i64 g.b, .int .i64 g.c] 55)).alloc (.cells #[.int .i64 N, .slice B m d] 61)).alloc (.cells #[] 3)).ownsRow w.heap.size 3 1 (.slice (some ⟨w.heap.size + 1 + 1, 0, none⟩) 0 0) 0 [] from by have := World.ownsRow_lit (e := 3) (size := 1) (base := w.heap.size) ((w.alloc (.cells #[.int .i64 g.k, .int .i64 g.a, .int .i64 g.b, .int .i64 g.c] 55)).alloc (.cells #[.int .i64 N, .slice B m d] 61)) #[] 0 (by simp <;> omega) (by simp [maxLen]) rfl; simpa using this)
  have TL := Lib.hid (T0.out.below (((Below.refl _ _).alloc (Nat.le_refl _) (.cells #[] 3))))
  clear T0
  go_enter Try.func91, Try.ntmps91
  go_wp2_with (at_builtin; refine wpList_app0 rfl (.tmp 11) (.tmp 12) 62 rfl Try.underlying62 infoInt1 rfl (by decide) rfl OL.out rfl (HZ.out.below TL.out.2.2).2 one_cellsI (by omega) (by decide) (by simp <;> omega) ?_; intro A1 c1 w1 o1 g1; have T1 := Lib.hid (TL.out.grown OL.out g1 (.inl (by decide)) (by decide) (Nat.le_refl _)); have ⟨p0, p1, p2, p3, p4, p5⟩ := T1.out.cells)
  have O1 := Lib.hid o1
  have hs1 : w.heap.size + 2 ≤ w1.heap.size := by have := T1.out.2.1.lt; omega
  clear OL TL o1 g1
  refine (i_mayRoute g N B m d ps Z nz cz zs _ (HP.out.below T1.out.2.2) hm (HZ.out.below T1.out.2.2) (by omega)).mono ?_
  rintro e w2 ⟨rfl, b2⟩
  have T2 := Lib.hid (T1.out.below b2)
  have O2 := Lib.hid (ownsRow_below O1.out b2)
  have hs2 : w.heap.size + 2 ≤ w2.heap.size := by have := b2.size; omega
  clear b2 T1 O1 p0 p1 p2 p3 p4 p5 hs1
  cases hmay : mayR ps N zs g
  · have HM := Lib.hid (routeG_no hmay)
    clear hmay
    go_wp2_with fail
    go_ret2
    rw [HM.out]
    exact retGI rfl HZL.out (World.ownsRow_nil _ w.heap.size _ _) (Nat.le_refl _) O2.out (Nat.le_refl _) T2.out.2.2
  · have HMAY := Lib.hid hmay
    have hlay := (mayR_parts hmay).1
    have HLAY := Lib.hid hlay
    obtain ⟨hN, _, hN1, hN4⟩ := isLay_len hlay
    rw [HZL.out] at hN
    obtain ⟨ha0, ha1⟩ := mayR_a hmay
    obtain ⟨ka, hka⟩ : ∃ ka : Nat, g.a = ka := ⟨g.a.toNat, by omega⟩
    have HKA := Lib.hid hka
    rw [hka] at ha0 ha1
    have hka1 : (ka : Int) < (nz : Int) := by omega
    have HNN := Lib.hid hN
    clear hlay hmay hka hN
    obtain ⟨p0, p1, p2, p3, p4, p5⟩ := T2.out.cells
    rw [HKA.out] at p1
    cases har : (arity g.k == 1)
    · have HAR := Lib.hid har
      obtain ⟨hb0, hb1⟩ := mayR_b HMAY.out har
      obtain ⟨kb, hkb⟩ : ∃ kb : Nat, g.b = kb := ⟨g.b.toNat, by omega⟩
      have HKB := Lib.hid hkb
      rw [hkb] at hb0 hb1
      have hkb1 : (kb : Int) < (nz : Int) := by have := HNN.out; omega
      clear hkb
      rw [HKB.out] at p2
      obtain ⟨R1, hR1⟩ : ∃ R, (routeG ps N zs g).1 = R := ⟨_, rfl⟩
      obtain ⟨R2, hR2⟩ : ∃ R, (routeG ps N zs g).2 = R := ⟨_, rfl⟩
      have HRT1 := Lib.hid hR1
      have HRT2 := Lib.hid hR2
      have HR1 : Hid ((rtS ps N g.a g.b 3 zs).1 = R1) := Lib.hid (by rw [← hR1, routeG_two HMAY.out HAR.out])
      have HR2 : Hid ((rtS ps N g.a g.b 3 zs).2 = R2) := Lib.hid (by rw [← hR2, routeG_two HMAY.out HAR.out])
      clear hR1 hR2
      go_wp2_with fail
      refine (i_Arity _ _).mono ?_
      rintro e w' ⟨rfl, rfl⟩
      go_wp2_with fail
      have OG3 := Lib.hid (show (w2.alloc (.cells #[] 55)).ownsRow (w.heap.size + 2) 55 4 (.slice (some ⟨w2.heap.size, 0, none⟩) 0 0) 0 (cellsG []) from World.ownsRow_lit w2 #[] 0 hs2 (by simp [maxLen]) rfl)
      have T3 := Lib.hid (T2.out.below ((Below.refl _ _).alloc (Nat.le_refl _) (.cells #[] 55)))
      have O3 := Lib.hid (O2.out.alloc (.cells #[] 55))
      clear p0 p1 p2 p3 p4 p5
      clear har
      go_loopg [8, 9, 10] 3 (fun r z o y wr => ∃ (zl : List Int) (ol : List Gt) (Az : Option Addr) (cz' : Nat) (Ao : Option Addr) (no co : Nat) (r' : Nat), z = .slice Az nz cz' ∧ o = .slice Ao no co ∧ r' = r ∧ ol.length = no ∧ no + r ≤ 3 ∧ gd ps N (zAt zl g.a) (zAt zl g.b) ≤ r' ∧ isLay ps N zl = true ∧ ol ++ (rtS ps N g.a g.b r' zl).1 = R1 ∧ (rtS ps N g.a g.b r' zl).2 = R2 ∧ wr.ownsRow w.heap.size 3 1 (.slice Az nz cz') nz (cellsI zl) ∧ wr.ownsRow (w.heap.size + 2) 55 4 (.slice Ao no co) no (cellsG ol) ∧ TwoBx w g N B m d wr)
      case atStart =>
        refine ⟨zs, [], _, _, _, 0, 0, 3, rfl, rfl, rfl, rfl, by omega, ?_, HLAY.out, HR1.out, HR2.out, O3.out, OG3.out, T3.out⟩
        have := gd_bd ps N (zAt zs g.a) (zAt zs g.b)
        omega
      case round =>
        clear T3 O3 OG3 HR1 HR2 HLAY
        obtain ⟨zl, ol, Az, cz', Ao, no, co, r', rfl, rfl, hr', hol, hno, hgd, hlay, hq1, hq2, oz, oo, tt⟩ := hrel
        subst hr'
        have HOL := Lib.hid hol
        have HLAY := Lib.hid hlay
        have HQ1 := Lib.hid hq1
        have HQ2 := Lib.hid hq2
        have OZ := Lib.hid oz
        have OO := Lib.hid oo
        have TT := Lib.hid tt
        have hsr : w.heap.size + 2 ≤ wr.heap.size := by have := tt.2.1.lt; omega
        have hzl : zl.length = nz := (RdI.own oz).1
        have HZL2 := Lib.hid hzl
        obtain ⟨za, hza⟩ : ∃ v, zAt zl g.a = v := ⟨_, rfl⟩
        obtain ⟨zb, hzb⟩ : ∃ v, zAt zl g.b = v := ⟨_, rfl⟩
        have HZA := Lib.hid hza
        have HZB := Lib.hid hzb
        obtain ⟨bz, fz, xa, hAz, hBz, hda, ca⟩ := (RdI.own oz).at_ (show ka < nz by omega)
        obtain ⟨bz', fz', xb, hAz', _, hdb, cb⟩ := (RdI.own oz).at_ (show kb < nz by omega)
        subst hAz
        injection hAz' with hAz'
        injection hAz' with e1 e2 _
        subst e1 e2
        obtain rfl : xa = za := by rw [← hza, zAt_nat zl HKA.out]; exact (drop_getD hda).symm
        obtain rfl : xb = zb := by rw [← hzb, zAt_nat zl HKB.out]; exact (drop_getD hdb).symm
        rw [hza, hzb] at hgd
        obtain ⟨D, hD⟩ : ∃ D, gd ps N xa xb = D := ⟨_, rfl⟩
        rw [hD] at hgd
        have HD := Lib.hid hD
        obtain ⟨p0, p1, p2, p3, p4, p5⟩ := tt.cells
        rw [HKA.out] at p1
        rw [HKB.out] at p2
        clear hol hlay hq1 hq2 oz oo tt hzl hza hzb hda hdb hD
        go_wp2_with fail
        go_still_tail 11, (by kernel_rfl)
        go_wp2_with fail
        refine (i_GraphDistance N _ _ _ xa xb ps _ (HP.out.below TT.out.2.2).drew hm).mono ?_
        rintro e w4 ⟨rfl, b4⟩
        rw [HD.out]
        have TT4 := Lib.hid (TT.out.drew.below b4)
        have OZ4 := Lib.hid (ownsRow_below (ownsRow_drew OZ.out) b4)
        have OO4 := Lib.hid (ownsRow_below (ownsRow_drew OO.out) b4)
        have ca4 := (b4.cell (p := ⟨bz, fz + ka, none⟩) hBz).trans ca
        have cb4 := (b4.cell (p := ⟨bz, fz + kb, none⟩) hBz).trans cb
        have hB4 : bz < w4.heap.size := Nat.lt_of_lt_of_le hBz b4.size
        have hs4 : w.heap.size + 2 ≤ w4.heap.size := Nat.le_trans hsr b4.size
        clear b4 TT OZ OO ca cb hBz hsr p0 p1 p2 p3 p4 p5
        obtain ⟨p0, p1, p2, p3, p4, p5⟩ := TT4.out.cells
        rw [HKA.out] at p1
        rw [HKB.out] at p2
        by_cases hfar : 1 < D
        · obtain ⟨r0, rfl⟩ : ∃ r0, r' = r0 + 1 := ⟨r' - 1, by omega⟩
          obtain ⟨rest, hsp, hx0, hx1, hly, hg⟩ := step_ok HLAY.out (qa := g.a) (qb := g.b) (by rw [HKA.out]; omega) (by rw [HKA.out]; omega) (by rw [HKB.out]; omega) (by rw [HKB.out]; omega) (by rw [HZA.out, HZB.out, HD.out]; exact hfar)
          have hrf := rt_far (ps := ps) (N := N) (qa := g.a) (qb := g.b) (f := r0) (z := zl) (by rw [HZA.out, HZB.out, HD.out]; exact hfar)
          rw [HZA.out, HZB.out] at hsp hx0 hx1 hly hg hrf
          rw [HD.out] at hg
          obtain ⟨x, hx⟩ : ∃ x, way1 ps N xa xb = x := ⟨_, rfl⟩
          rw [hx] at hsp hx0 hx1 hly hg hrf
          have hspn := spN_eq (ps := ps) (N := N) (a := xa) (b := xb) (by rw [HD.out]; omega)
          rw [hsp] at hspn
          simp only [List.length_cons] at hspn
          have hspb : spN ps N xa xb ≤ 5 := by have := gd_bd ps N xa xb; unfold spN; omega
          rw [hspn] at hspb
          obtain ⟨q, hq⟩ : ∃ q, rest.length + 1 + 1 = q := ⟨_, rfl⟩
          rw [hq] at hspn hspb
          have hq2 : 2 ≤ q := by omega
          have HSN := Lib.hid hspn
          have HSP := Lib.hid hsp
          have HLY := Lib.hid hly
          have HG := Lib.hid hg
          have HRF := Lib.hid hrf
          clear hspn hsp hly hg hrf hx hq
          go_wp2_with fail
          go_still_tail 11, (by kernel_rfl)
          go_wp2_with fail
          refine (i_ShortestPath N _ _ _ xa xb ps _ (HP.out.below TT4.out.2.2).drew hm).mono ?_
          rintro e w5 ⟨A5, c5, rfl, o5, b5⟩
          rw [HSN.out] at o5 ⊢
          rw [HSP.out] at o5
          have TT5 := Lib.hid (TT4.out.drew.below b5)
          have OZ5 := Lib.hid (ownsRow_below (ownsRow_drew OZ4.out) b5)
          have OO5 := Lib.hid (ownsRow_below (ownsRow_drew OO4.out) b5)
          have hs5 : w.heap.size + 2 ≤ w5.heap.size := Nat.le_trans hs4 b5.size
          have W5 := Lib.hid o5
          obtain ⟨bw, fw, hAw, hBw, cw0, cw1⟩ := way_cells o5
          subst hAw
          clear b5 o5 TT4 OZ4 OO4 ca4 cb4 hB4 hs4 p0 p1 p2 p3 p4 p5
          have hqi : 1 < q := by omega
          have hqj : 0 < q := by omega
          have hqk : (1 : Int) < (q : Int) := by omega
          have OA := Lib.hid (show (w5.alloc (.cells #[.int .i64 11, .int .i64 xa, .int .i64 x, .int .i64 0] 55)).drew.ownsRow (w.heap.size + 2) 55 4 (.slice Ao no co) no (cellsG ol) from OO5.out.alloc _)
          have WA := Lib.hid (show (w5.alloc (.cells #[.int .i64 11, .int .i64 xa, .int .i64 x, .int .i64 0] 55)).drew.ownsRow _ 3 1 (.slice (some ⟨bw, fw, none⟩) q c5) q (cellsI (xa :: x :: rest)) from W5.out.alloc _)
          have ZA := Lib.hid (show (w5.alloc (.cells #[.int .i64 11, .int .i64 xa, .int .i64 x, .int .i64 0] 55)).drew.ownsRow w.heap.size 3 1 (.slice (some ⟨bz, fz, none⟩) nz cz') nz (cellsI zl) from OZ5.out.alloc _)
          have TA := Lib.hid (show TwoBx w g N B m d (w5.alloc (.cells #[.int .i64 11, .int .i64 xa, .int .i64 x, .int .i64 0] 55)).drew from (TT5.out.below ((Below.refl _ _).alloc (Nat.le_refl _) _)).drew)
          have RA := Lib.hid (show Rd (w5.alloc (.cells #[.int .i64 11, .int .i64 xa, .int .i64 x, .int .i64 0] 55)).drew 4 (some ⟨w5.heap.size, 0, none⟩) 1 [.int .i64 11, .int .i64 xa, .int .i64 x, .int .i64 0] from Rd.lit w5 55 #[.int .i64 11, .int .i64 xa, .int .i64 x, .int .i64 0] 1 4 rfl)
          have hz4 : (Value.agg #[.int .i64 0, .int .i64 0, .int .i64 0, .int .i64 0]).cells.size = 4 := rfl
          have nn0 := World.new_ne w5 _ cw0
          have nn1 := World.new_ne w5 _ cw1
          clear OO5 W5 OZ5 TT5
          go_wp2_with fail
          go_region_held3 (fun w' => w'.cell? ⟨bw, fw, none⟩ = some (.int .i64 xa) ∧ w'.cell? ⟨bw, fw + 1, none⟩ = some (.int .i64 x))
            (first | go_keep | exact ⟨k0, k1⟩)
            (first | (refine step_app (by rfl) (.tmp 60) (.tmp 68) 41 (by rfl) Try.underlying41 infoGate hz4 (by decide) (by simp [Act.eval] <;> rfl) OA.out (by simp [Act.eval] <;> rfl) RA.out (by simp [Value.oneCell']) (by omega) (by decide) (by simp <;> omega) ?_; intro A6 c6 w6 o6 g6; have W6 := Lib.hid (WA.out.kept g6 (own_types WA.out OA.out (by decide))); have ⟨hw6, k0, k1⟩ := way_at W6.out) | fail)
          have Z6 := Lib.hid (ZA.out.kept g6 (own_types ZA.out OA.out (by decide)))
          have T6 := Lib.hid (TA.out.grown OA.out g6 (.inr (Nat.le_refl _)) (by decide) (by omega))
          have O6 := Lib.hid (show w6.ownsRow (w.heap.size + 2) 55 4 (.slice A6 (no + 1) c6) (no + 1) (cellsG (ol ++ [⟨11, xa, x, 0⟩])) from by rw [cellsG_append]; exact o6)
          clear o6 g6 OA WA ZA TA RA nn0 nn1 cw0 cw1 hBw hz4
          go_wp2_with fail
          go_still_tail 7, (by kernel_rfl)
          go_wp2_with fail
          have hprm := (isLay_len HLAY.out).2.1
          refine (i_SwapLayout _ _ _ zl xa x _ (RdI.own Z6.out).drew (by omega)).mono ?_
          rintro e w7 ⟨A7, c7, rfl, o7, b7⟩
          rw [swapN_perm hprm, HZL2.out] at o7 ⊢
          have T7 := T6.out.drew.below b7
          have O7 := ownsRow_below (ownsRow_drew O6.out) b7
          have Z7 := ownsRow_base o7 (show w.heap.size ≤ w6.drew.heap.size from T6.out.2.2.size)
          have TT7 := Lib.hid T7
          have OO7 := Lib.hid O7
          have ZZ7 := Lib.hid Z7
          clear T6 O6 Z6 W6 b7 o7 T7 O7 Z7 hprm k0 k1 hw6
          go_wp2_with fail
          go_roundg r0
          case measure => omega
          case rel =>
            refine ⟨swapL zl xa x, ol ++ [⟨11, xa, x, 0⟩], A7, c7, A6, no + 1, c6, r0, rfl, rfl, rfl, by rw [List.length_append, HOL.out]; rfl, by omega, by rw [HG.out]; omega, HLY.out, ?_, ?_, ZZ7.out, OO7.out, TT7.out⟩
            · rw [← HQ1.out, HRF.out, List.append_assoc]; rfl
            · rw [← HQ2.out, HRF.out]
        · have hnr := rt_near (ps := ps) (N := N) (qa := g.a) (qb := g.b) (f := r') (z := zl) (by rw [HZA.out, HZB.out, HD.out]; omega)
          rw [HZA.out, HZB.out] at hnr
          have HNR := Lib.hid hnr
          clear hnr
          have hz4 : (Value.agg #[.int .i64 0, .int .i64 0, .int .i64 0, .int .i64 0]).cells.size = 4 := rfl
          have hi0 : (0 : Int) ≤ (ka : Int) := by omega
          have hi1 : (0 : Int) ≤ (kb : Int) := by omega
          have hgl : w.heap.size < w4.heap.size := by omega
          have hkan : ka < nz := by omega
          have hkbn : kb < nz := by omega
          go_wp2_with fail
          go_region_held3 (fun w' => w'.cell? ⟨w.heap.size, 1, none⟩ = some (.int .i64 (ka : Int)) ∧ w'.cell? ⟨w.heap.size, 2, none⟩ = some (.int .i64 (kb : Int)) ∧ w'.cell? ⟨bz, fz + ka, none⟩ = some (.int .i64 xa) ∧ w'.cell? ⟨bz, fz + kb, none⟩ = some (.int .i64 xb))
            (first | go_keep | exact ⟨k0, k1, k2, k3⟩ | exact ⟨j0, j1, j2, j3⟩)
            (first
              | (go_at_call 144; (with_reducible refine (i_cx xa xb _).mono ?_); rintro e w5 ⟨rfl, b5⟩; have k0 := (b5.cell (p := ⟨w.heap.size, 1, none⟩) hgl).trans p1; have k1 := (b5.cell (p := ⟨w.heap.size, 2, none⟩) hgl).trans p2; have k2 := (b5.cell (p := ⟨bz, fz + ka, none⟩) hB4).trans ca4; have k3 := (b5.cell (p := ⟨bz, fz + kb, none⟩) hB4).trans cb4; have nn0 := World.new_ne w5 _ k0; have nn1 := World.new_ne w5 _ k1; have nn2 := World.new_ne w5 _ k2; have nn3 := World.new_ne w5 _ k3; have OO5 := ownsRow_below (ownsRow_drew OO4.out) b5; have OA := OO5.alloc (.cells #[.int .i64 9, .int .i64 xa, .int .i64 xb, .int .i64 0] 55); have TA := (TT4.out.drew.below b5).below ((Below.refl _ _).alloc (Nat.le_refl _) (.cells #[.int .i64 9, .int .i64 xa, .int .i64 xb, .int .i64 0] 55)); have ZA := (ownsRow_below (ownsRow_drew OZ4.out) b5).alloc (.cells #[.int .i64 9, .int .i64 xa, .int .i64 xb, .int .i64 0] 55); have hs5 : w.heap.size + 2 ≤ w5.heap.size := Nat.le_trans hs4 b5.size)
              | (refine step_app (by rfl) (.tmp 78) (.tmp 90) 41 (by rfl) Try.underlying41 infoGate hz4 (by decide) (by simp [Act.eval] <;> rfl) OA (by simp [Act.eval] <;> rfl) (Rd.lit w5 55 #[.int .i64 9, .int .i64 xa, .int .i64 xb, .int .i64 0] 1 4 rfl) (by simp [Value.oneCell']) (by omega) (by decide) (by simp <;> omega) ?_; intro A6 c6 w6 o6 g6; have Z6 := ZA.kept g6 (own_types ZA OA (by decide)); have T6 := TA.grown OA g6 (.inr (Nat.le_refl _)) (by decide) (by omega); have j0 := T6.cellA HKA.out; have j1 := T6.cellB HKB.out; have j2 := row_atz Z6 hkan HKA.out HZA.out; have j3 := row_atz Z6 hkbn HKB.out HZB.out) | fail)
          all_goals go_wp2_with fail
          all_goals go_ret2
          all_goals rw [HRT1.out, HRT2.out, ← HQ1.out, ← HQ2.out, HNR.out]
          all_goals exact retGI (by rw [List.length_append, HOL.out]; rfl) HZL2.out (by rw [cellsG_append]; exact o6) (by omega) Z6 (Nat.le_refl _) T6.2.2
    · have HAR := Lib.hid har
      have HRR := Lib.hid (routeG_one HMAY.out har)
      obtain ⟨za, hza⟩ : ∃ v, zAt zs g.a = v := ⟨_, rfl⟩
      rw [hza] at HRR
      obtain ⟨bz, fz, xa, hAz, hBz, hda, ca⟩ := (HZ.out.below T2.out.2.2).at_ (show ka < nz by omega)
      subst hAz
      obtain rfl : xa = za := by rw [← hza, zAt_nat zs HKA.out]; exact (drop_getD hda).symm
      clear hza hda
      obtain ⟨bz0, fz0, xa0, hAz0, hbw, hda0, ca0⟩ := HZ.out.at_ (show ka < nz by omega)
      injection hAz0 with hAz0
      injection hAz0 with e1 e2 _
      subst e1 e2
      rw [T2.out.2.2.cell (p := ⟨bz, fz + ka, none⟩) hbw] at ca
      rw [ca] at ca0
      injection ca0 with ca0
      injection ca0 with _ ca0
      subst ca0
      have ca0 := ca
      rw [← T2.out.2.2.cell (p := ⟨bz, fz + ka, none⟩) hbw] at ca
      clear hda0
      have hz4 : (Value.agg #[.int .i64 0, .int .i64 0, .int .i64 0, .int .i64 0]).cells.size = 4 := rfl
      have hi0 : (0 : Int) ≤ (ka : Int) := by omega
      have hgl : w.heap.size < w2.heap.size := by omega
      go_wp2_with fail
      refine (i_Arity _ _).mono ?_
      rintro e w' ⟨rfl, rfl⟩
      go_wp2_with fail
      clear har
      go_region_held3 (fun w' => w'.cell? ⟨w.heap.size, 0, none⟩ = some (.int .i64 g.k) ∧ w'.cell? ⟨w.heap.size, 1, none⟩ = some (.int .i64 (ka : Int)) ∧ w'.cell? ⟨bz, fz + ka, none⟩ = some (.int .i64 xa))
        (first | go_keep | exact ⟨k0, k1, k2⟩ | exact ⟨j0, j1, j2⟩)
        (first | (go_at_call 140; (with_reducible refine (i_one g.k xa _).mono ?_); rintro e w5 ⟨rfl, b5⟩; have k0 := (b5.cell (p := ⟨w.heap.size, 0, none⟩) hgl).trans p0; have k1 := (b5.cell (p := ⟨w.heap.size, 1, none⟩) hgl).trans p1; have k2 := (b5.cell (p := ⟨bz, fz + ka, none⟩) hBz).trans ca; have nn0 := World.new_ne w5 _ k0; have nn1 := World.new_ne w5 _ k1; have nn2 := World.new_ne w5 _ k2; have TT5 := T2.out.drew.below b5; have ZZ5 := ownsRow_below (ownsRow_drew O2.out) b5; have hs5 : w.heap.size + 2 ≤ w5.heap.size := Nat.le_trans hs2 b5.size) | fail)
      all_goals go_wp2_with fail
      all_goals go_ret2
      all_goals rw [HRR.out]
      all_goals exact retGI rfl HZL.out (World.ownsRow_lit w5 #[.int .i64 g.k, .int .i64 xa, .int .i64 0, .int .i64 0] 1 (Nat.le_refl _) (by simp [maxLen]) rfl) (by omega) (ZZ5.alloc _) (Nat.le_refl _) (TT5.2.2.alloc (by omega) _)

set_option maxRecDepth 100000 in
set_option maxHeartbeats 6400000 in
theorem s_RouteGate (g : Gt) (N : Int) (B : Option Addr) (m d : Nat) (ps : List (Int × Int)) (Z : Option Addr) (nz cz : Nat) (zs : List Int) (w : World) (hp : RdP w B m ps) (hm : m ≤ 1099511627776) (hz : RdI w Z nz zs) (hzc : nz ≤ cz) (hn : nz ≤ 1048576) :
    Calls Try.prog 95 #[.agg #[.int .i64 g.k, .int .i64 g.a, .int .i64 g.b, .int .i64 g.c], .agg #[.int .i64 N, .slice B m d], .slice Z nz cz] w (RetGI (routeG ps N zs g).1 (routeG ps N zs g).2 w) := by
  have T0 := Lib.hid (TwoBx.new w g N B m d)
  have HP := Lib.hid hp
  have HZ := Lib.hid hz
  have hzl := hz.1
  have HZL := Lib.hid hzl
  clear hp hz hzl
  have OG := Lib.hid (show ((((w.alloc (.cells #[.int .i64 g.k, .int .i64 g.a, .int .i64 g.b, .int .i64 g.c] 55)).alloc (.cells #[.int .i64 N, .slice B m d] 61)).alloc (.cells #[] 55)).alloc (.cells #[] 3)).ownsRow (w.heap.size + 2) 55 4 (.slice (some ⟨w.heap.size + 1 + 1, 0, none⟩) 0 0) 0 (cellsG []) from by have := (World.ownsRow_lit (e := 55) (size := 4) (base := w.heap.size + 2) ((w.alloc (.cells #[.int .i64 g.k, .int .i64 g.a, .int .i64 g.b, .int .i64 g.c] 55)).alloc (.cells #[.int .i64 N, .slice B m d] 61)) #[] 0 (by simp) (by simp [maxLen]) rfl).alloc (.cells #[] 3); rw [World.size_alloc, World.size_alloc] at this; exact this)
  have OL := Lib.hid (show ((((w.alloc (.cells #[.int .i64 g.k, .int .i64 g.a, .int .i64 g.b, .int .i64 g.c] 55)).alloc (.cells #[.int .i64 N, .slice B m d] 61)).alloc (.cells #[] 55)).alloc (.cells #[] 3)).ownsRow w.heap.size 3 1 (.slice (some ⟨w.heap.size + 1 + 1 + 1, 0, none⟩) 0 0) 0 [] from by have := World.ownsRow_lit (e := 3) (size := 1) (base := w.heap.size) (((w.alloc (.cells #[.int .i64 g.k, .int .i64 g.a, .int .i64 g.b, .int .i64 g.c] 55)).alloc (.cells #[.int .i64 N, .slice B m d] 61)).alloc (.cells #[] 55)) #[] 0 (by simp <;> omega) (by simp [maxLen]) rfl; simpa using this)
  have TL := Lib.hid (T0.out.below (((Below.refl _ _).alloc (Nat.le_refl _) (.cells #[] 55)).alloc (by simp) (.cells #[] 3)))
  clear T0
  go_enter Try.func95, Try.ntmps95
  go_wp2_with (at_builtin; refine wpList_app0 rfl (.tmp 12) (.tmp 13) 62 rfl Try.underlying62 infoInt1 rfl (by decide) rfl OL.out rfl (HZ.out.below TL.out.2.2).2 one_cellsI (by omega) (by decide) (by simp <;> omega) ?_; intro A1 c1 w1 o1 g1; have T1 := Lib.hid (TL.out.grown OL.out g1 (.inl (by decide)) (by decide) (Nat.le_refl _)); have ⟨p0, p1, p2, p3, p4, p5⟩ := T1.out.cells)
  have O1 := Lib.hid o1
  have OG1 := Lib.hid (OG.out.kept g1 (own_types OG.out OL.out (by decide)))
  clear OG
  have hs1 : w.heap.size + 2 ≤ w1.heap.size := by have := T1.out.2.1.lt; omega
  clear OL TL o1 g1
  refine (s_l38Right g N B m d ps Z nz cz zs _ (HP.out.below T1.out.2.2) hm (HZ.out.below T1.out.2.2) hzc (by omega)).mono ?_
  rintro e w2 ⟨rfl, b2⟩
  have T2 := Lib.hid (T1.out.below b2)
  have O2 := Lib.hid (ownsRow_below O1.out b2)
  have OG2 := Lib.hid (ownsRow_below OG1.out b2)
  have hs2 : w.heap.size + 2 ≤ w2.heap.size := by have := b2.size; omega
  clear b2 T1 O1 p0 p1 p2 p3 p4 p5 hs1 OG1
  cases hmay : mayR ps N zs g
  · have HM := Lib.hid (routeG_no hmay)
    clear hmay
    go_wp2_with fail
    go_ret2
    rw [HM.out]
    exact retGI rfl HZL.out OG2.out (by omega) O2.out (Nat.le_refl _) T2.out.2.2
  · have HMAY := Lib.hid hmay
    have hlay := (mayR_parts hmay).1
    have HLAY := Lib.hid hlay
    obtain ⟨hN, _, hN1, hN4⟩ := isLay_len hlay
    rw [HZL.out] at hN
    obtain ⟨ha0, ha1⟩ := mayR_a hmay
    obtain ⟨ka, hka⟩ : ∃ ka : Nat, g.a = ka := ⟨g.a.toNat, by omega⟩
    have HKA := Lib.hid hka
    rw [hka] at ha0 ha1
    have hka1 : (ka : Int) < (nz : Int) := by omega
    have HNN := Lib.hid hN
    clear hlay hmay hka hN
    obtain ⟨p0, p1, p2, p3, p4, p5⟩ := T2.out.cells
    rw [HKA.out] at p1
    cases har : (arity g.k == 1)
    · have HAR := Lib.hid har
      obtain ⟨hb0, hb1⟩ := mayR_b HMAY.out har
      obtain ⟨kb, hkb⟩ : ∃ kb : Nat, g.b = kb := ⟨g.b.toNat, by omega⟩
      have HKB := Lib.hid hkb
      rw [hkb] at hb0 hb1
      have hkb1 : (kb : Int) < (nz : Int) := by have := HNN.out; omega
      clear hkb
      rw [HKB.out] at p2
      have hk9 : (g.k != 9) = false := by have := basic_kind (mayR_parts HMAY.out).2.1 har; simp [this]
      clear har
      obtain ⟨R1, hR1⟩ : ∃ R, (routeG ps N zs g).1 = R := ⟨_, rfl⟩
      obtain ⟨R2, hR2⟩ : ∃ R, (routeG ps N zs g).2 = R := ⟨_, rfl⟩
      have HRT1 := Lib.hid hR1
      have HRT2 := Lib.hid hR2
      have HR1 : Hid ((rtS ps N g.a g.b 3 zs).1 = R1) := Lib.hid (by rw [← hR1, routeG_two HMAY.out HAR.out])
      have HR2 : Hid ((rtS ps N g.a g.b 3 zs).2 = R2) := Lib.hid (by rw [← hR2, routeG_two HMAY.out HAR.out])
      clear hR1 hR2
      go_wp2_with fail
      have OG3 := OG2
      have T3 := T2
      have O3 := O2
      clear hk9
      clear p0 p1 p2 p3 p4 p5
      go_loopg [8, 9, 10] 3 (fun r o z y wr => ∃ (zl : List Int) (ol : List Gt) (Az : Option Addr) (cz' : Nat) (Ao : Option Addr) (no co : Nat) (r' : Nat), z = .slice Az nz cz' ∧ o = .slice Ao no co ∧ r' = r ∧ ol.length = no ∧ no + r ≤ 3 ∧ gd ps N (zAt zl g.a) (zAt zl g.b) ≤ r' ∧ isLay ps N zl = true ∧ ol ++ (rtS ps N g.a g.b r' zl).1 = R1 ∧ (rtS ps N g.a g.b r' zl).2 = R2 ∧ wr.ownsRow w.heap.size 3 1 (.slice Az nz cz') nz (cellsI zl) ∧ wr.ownsRow (w.heap.size + 2) 55 4 (.slice Ao no co) no (cellsG ol) ∧ TwoBx w g N B m d wr)
      case atStart =>
        refine ⟨zs, [], _, _, _, 0, 0, 3, rfl, rfl, rfl, rfl, by omega, ?_, HLAY.out, HR1.out, HR2.out, O3.out, OG3.out, T3.out⟩
        have := gd_bd ps N (zAt zs g.a) (zAt zs g.b)
        omega
      case round =>
        clear T3 O3 OG3 HR1 HR2 HLAY
        obtain ⟨zl, ol, Az, cz', Ao, no, co, r', rfl, rfl, hr', hol, hno, hgd, hlay, hq1, hq2, oz, oo, tt⟩ := hrel
        subst hr'
        have HOL := Lib.hid hol
        have HLAY := Lib.hid hlay
        have HQ1 := Lib.hid hq1
        have HQ2 := Lib.hid hq2
        have OZ := Lib.hid oz
        have OO := Lib.hid oo
        have TT := Lib.hid tt
        have hsr : w.heap.size + 2 ≤ wr.heap.size := by have := tt.2.1.lt; omega
        have hzl : zl.length = nz := (RdI.own oz).1
        have HZL2 := Lib.hid hzl
        obtain ⟨za, hza⟩ : ∃ v, zAt zl g.a = v := ⟨_, rfl⟩
        obtain ⟨zb, hzb⟩ : ∃ v, zAt zl g.b = v := ⟨_, rfl⟩
        have HZA := Lib.hid hza
        have HZB := Lib.hid hzb
        obtain ⟨bz, fz, xa, hAz, hBz, hda, ca⟩ := (RdI.own oz).at_ (show ka < nz by omega)
        obtain ⟨bz', fz', xb, hAz', _, hdb, cb⟩ := (RdI.own oz).at_ (show kb < nz by omega)
        subst hAz
        injection hAz' with hAz'
        injection hAz' with e1 e2 _
        subst e1 e2
        obtain rfl : xa = za := by rw [← hza, zAt_nat zl HKA.out]; exact (drop_getD hda).symm
        obtain rfl : xb = zb := by rw [← hzb, zAt_nat zl HKB.out]; exact (drop_getD hdb).symm
        rw [hza, hzb] at hgd
        obtain ⟨D, hD⟩ : ∃ D, gd ps N xa xb = D := ⟨_, rfl⟩
        rw [hD] at hgd
        have HD := Lib.hid hD
        obtain ⟨p0, p1, p2, p3, p4, p5⟩ := tt.cells
        rw [HKA.out] at p1
        rw [HKB.out] at p2
        clear hol hlay hq1 hq2 oz oo tt hzl hza hzb hda hdb hD
        go_wp2_with fail
        go_still_tail 11, (by kernel_rfl)
        go_wp2_with fail
        refine (s_GraphDistance N _ _ _ xa xb ps _ (HP.out.below TT.out.2.2).drew hm).mono ?_
        rintro e w4 ⟨rfl, b4⟩
        rw [HD.out]
        have TT4 := Lib.hid (TT.out.drew.below b4)
        have OZ4 := Lib.hid (ownsRow_below (ownsRow_drew OZ.out) b4)
        have OO4 := Lib.hid (ownsRow_below (ownsRow_drew OO.out) b4)
        have ca4 := (b4.cell (p := ⟨bz, fz + ka, none⟩) hBz).trans ca
        have cb4 := (b4.cell (p := ⟨bz, fz + kb, none⟩) hBz).trans cb
        have hB4 : bz < w4.heap.size := Nat.lt_of_lt_of_le hBz b4.size
        have hs4 : w.heap.size + 2 ≤ w4.heap.size := Nat.le_trans hsr b4.size
        clear b4 TT OZ OO ca cb hBz hsr p0 p1 p2 p3 p4 p5
        obtain ⟨p0, p1, p2, p3, p4, p5⟩ := TT4.out.cells
        rw [HKA.out] at p1
        rw [HKB.out] at p2
        by_cases hfar : 1 < D
        · obtain ⟨r0, rfl⟩ : ∃ r0, r' = r0 + 1 := ⟨r' - 1, by omega⟩
          obtain ⟨rest, hsp, hx0, hx1, hly, hg⟩ := step_ok HLAY.out (qa := g.a) (qb := g.b) (by rw [HKA.out]; omega) (by rw [HKA.out]; omega) (by rw [HKB.out]; omega) (by rw [HKB.out]; omega) (by rw [HZA.out, HZB.out, HD.out]; exact hfar)
          have hrf := rt_far (ps := ps) (N := N) (qa := g.a) (qb := g.b) (f := r0) (z := zl) (by rw [HZA.out, HZB.out, HD.out]; exact hfar)
          rw [HZA.out, HZB.out] at hsp hx0 hx1 hly hg hrf
          rw [HD.out] at hg
          obtain ⟨x, hx⟩ : ∃ x, way1 ps N xa xb = x := ⟨_, rfl⟩
          rw [hx] at hsp hx0 hx1 hly hg hrf
          have hspn := spN_eq (ps := ps) (N := N) (a := xa) (b := xb) (by rw [HD.out]; omega)
          rw [hsp] at hspn
          simp only [List.length_cons] at hspn
          have hspb : spN ps N xa xb ≤ 5 := by have := gd_bd ps N xa xb; unfold spN; omega
          rw [hspn] at hspb
          obtain ⟨q, hq⟩ : ∃ q, rest.length + 1 + 1 = q := ⟨_, rfl⟩
          rw [hq] at hspn hspb
          have hq2 : 2 ≤ q := by omega
          have HSN := Lib.hid hspn
          have HSP := Lib.hid hsp
          have HLY := Lib.hid hly
          have HG := Lib.hid hg
          have HRF := Lib.hid hrf
          clear hspn hsp hly hg hrf hx hq
          go_wp2_with fail
          go_still_tail 11, (by kernel_rfl)
          go_wp2_with fail
          refine (s_ShortestPath N _ _ _ xa xb ps _ (HP.out.below TT4.out.2.2).drew hm).mono ?_
          rintro e w5 ⟨A5, c5, rfl, o5, b5⟩
          rw [HSN.out] at o5 ⊢
          rw [HSP.out] at o5
          have TT5 := Lib.hid (TT4.out.drew.below b5)
          have OZ5 := Lib.hid (ownsRow_below (ownsRow_drew OZ4.out) b5)
          have OO5 := Lib.hid (ownsRow_below (ownsRow_drew OO4.out) b5)
          have hs5 : w.heap.size + 2 ≤ w5.heap.size := Nat.le_trans hs4 b5.size
          have W5 := Lib.hid o5
          obtain ⟨bw, fw, hAw, hBw, cw0, cw1⟩ := way_cells o5
          subst hAw
          clear b5 o5 TT4 OZ4 OO4 ca4 cb4 hB4 hs4 p0 p1 p2 p3 p4 p5
          have hqi : 1 < q := by omega
          have hqj : 0 < q := by omega
          have hqk : (1 : Int) < (q : Int) := by omega
          have OA := Lib.hid (show (w5.alloc (.cells #[.int .i64 11, .int .i64 xa, .int .i64 x, .int .i64 0] 55)).drew.ownsRow (w.heap.size + 2) 55 4 (.slice Ao no co) no (cellsG ol) from OO5.out.alloc _)
          have WA := Lib.hid (show (w5.alloc (.cells #[.int .i64 11, .int .i64 xa, .int .i64 x, .int .i64 0] 55)).drew.ownsRow _ 3 1 (.slice (some ⟨bw, fw, none⟩) q c5) q (cellsI (xa :: x :: rest)) from W5.out.alloc _)
          have ZA := Lib.hid (show (w5.alloc (.cells #[.int .i64 11, .int .i64 xa, .int .i64 x, .int .i64 0] 55)).drew.ownsRow w.heap.size 3 1 (.slice (some ⟨bz, fz, none⟩) nz cz') nz (cellsI zl) from OZ5.out.alloc _)
          have TA := Lib.hid (show TwoBx w g N B m d (w5.alloc (.cells #[.int .i64 11, .int .i64 xa, .int .i64 x, .int .i64 0] 55)).drew from (TT5.out.below ((Below.refl _ _).alloc (Nat.le_refl _) _)).drew)
          have RA := Lib.hid (show Rd (w5.alloc (.cells #[.int .i64 11, .int .i64 xa, .int .i64 x, .int .i64 0] 55)).drew 4 (some ⟨w5.heap.size, 0, none⟩) 1 [.int .i64 11, .int .i64 xa, .int .i64 x, .int .i64 0] from Rd.lit w5 55 #[.int .i64 11, .int .i64 xa, .int .i64 x, .int .i64 0] 1 4 rfl)
          have hz4 : (Value.agg #[.int .i64 0, .int .i64 0, .int .i64 0, .int .i64 0]).cells.size = 4 := rfl
          have nn0 := World.new_ne w5 _ cw0
          have nn1 := World.new_ne w5 _ cw1
          clear OO5 W5 OZ5 TT5
          go_wp2_with fail
          go_region_held3 (fun w' => w'.cell? ⟨bw, fw, none⟩ = some (.int .i64 xa) ∧ w'.cell? ⟨bw, fw + 1, none⟩ = some (.int .i64 x))
            (first | go_keep | exact ⟨k0, k1⟩)
            (first | (refine step_app (by rfl) (.tmp 62) (.tmp 70) 41 (by rfl) Try.underlying41 infoGate hz4 (by decide) (by simp [Act.eval] <;> rfl) OA.out (by simp [Act.eval] <;> rfl) RA.out (by simp [Value.oneCell']) (by omega) (by decide) (by simp <;> omega) ?_; intro A6 c6 w6 o6 g6; have W6 := Lib.hid (WA.out.kept g6 (own_types WA.out OA.out (by decide))); have ⟨hw6, k0, k1⟩ := way_at W6.out) | fail)
          have Z6 := Lib.hid (ZA.out.kept g6 (own_types ZA.out OA.out (by decide)))
          have T6 := Lib.hid (TA.out.grown OA.out g6 (.inr (Nat.le_refl _)) (by decide) (by omega))
          have O6 := Lib.hid (show w6.ownsRow (w.heap.size + 2) 55 4 (.slice A6 (no + 1) c6) (no + 1) (cellsG (ol ++ [⟨11, xa, x, 0⟩])) from by rw [cellsG_append]; exact o6)
          clear o6 g6 OA WA ZA TA RA nn0 nn1 cw0 cw1 hBw hz4
          go_wp2_with fail
          go_still_tail 7, (by kernel_rfl)
          go_wp2_with fail
          have hprm := (isLay_len HLAY.out).2.1
          refine (s_SwapLayout _ _ _ zl xa x _ (RdI.own Z6.out).drew (ownsRow_cap Z6.out) (by omega)).mono ?_
          rintro e w7 ⟨A7, c7, rfl, o7, b7⟩
          rw [swapN_perm hprm, HZL2.out] at o7 ⊢
          have T7 := T6.out.drew.below b7
          have O7 := ownsRow_below (ownsRow_drew O6.out) b7
          have Z7 := ownsRow_base o7 (show w.heap.size ≤ w6.drew.heap.size from T6.out.2.2.size)
          have TT7 := Lib.hid T7
          have OO7 := Lib.hid O7
          have ZZ7 := Lib.hid Z7
          clear T6 O6 Z6 W6 b7 o7 T7 O7 Z7 hprm k0 k1 hw6
          go_wp2_with fail
          go_roundg r0
          case measure => omega
          case rel =>
            refine ⟨swapL zl xa x, ol ++ [⟨11, xa, x, 0⟩], A7, c7, A6, no + 1, c6, r0, rfl, rfl, rfl, by rw [List.length_append, HOL.out]; rfl, by omega, by rw [HG.out]; omega, HLY.out, ?_, ?_, ZZ7.out, OO7.out, TT7.out⟩
            · rw [← HQ1.out, HRF.out, List.append_assoc]; rfl
            · rw [← HQ2.out, HRF.out]
        · have hnr := rt_near (ps := ps) (N := N) (qa := g.a) (qb := g.b) (f := r') (z := zl) (by rw [HZA.out, HZB.out, HD.out]; omega)
          rw [HZA.out, HZB.out] at hnr
          have HNR := Lib.hid hnr
          clear hnr
          have hz4 : (Value.agg #[.int .i64 0, .int .i64 0, .int .i64 0, .int .i64 0]).cells.size = 4 := rfl
          have hi0 : (0 : Int) ≤ (ka : Int) := by omega
          have hi1 : (0 : Int) ≤ (kb : Int) := by omega
          have hgl : w.heap.size < w4.heap.size := by omega
          have hkan : ka < nz := by omega
          have hkbn : kb < nz := by omega
          go_wp2_with fail
          go_region_held3 (fun w' => w'.cell? ⟨w.heap.size, 1, none⟩ = some (.int .i64 (ka : Int)) ∧ w'.cell? ⟨w.heap.size, 2, none⟩ = some (.int .i64 (kb : Int)) ∧ w'.cell? ⟨bz, fz + ka, none⟩ = some (.int .i64 xa) ∧ w'.cell? ⟨bz, fz + kb, none⟩ = some (.int .i64 xb))
            (first | go_keep | exact ⟨k0, k1, k2, k3⟩ | exact ⟨j0, j1, j2, j3⟩)
            (first
              | (go_at_call 151; (with_reducible refine (s_cx xa xb _).mono ?_); rintro e w5 ⟨rfl, b5⟩; have k0 := (b5.cell (p := ⟨w.heap.size, 1, none⟩) hgl).trans p1; have k1 := (b5.cell (p := ⟨w.heap.size, 2, none⟩) hgl).trans p2; have k2 := (b5.cell (p := ⟨bz, fz + ka, none⟩) hB4).trans ca4; have k3 := (b5.cell (p := ⟨bz, fz + kb, none⟩) hB4).trans cb4; have nn0 := World.new_ne w5 _ k0; have nn1 := World.new_ne w5 _ k1; have nn2 := World.new_ne w5 _ k2; have nn3 := World.new_ne w5 _ k3; have OO5 := ownsRow_below (ownsRow_drew OO4.out) b5; have OA := OO5.alloc (.cells #[.int .i64 9, .int .i64 xa, .int .i64 xb, .int .i64 0] 55); have TA := (TT4.out.drew.below b5).below ((Below.refl _ _).alloc (Nat.le_refl _) (.cells #[.int .i64 9, .int .i64 xa, .int .i64 xb, .int .i64 0] 55)); have ZA := (ownsRow_below (ownsRow_drew OZ4.out) b5).alloc (.cells #[.int .i64 9, .int .i64 xa, .int .i64 xb, .int .i64 0] 55); have hs5 : w.heap.size + 2 ≤ w5.heap.size := Nat.le_trans hs4 b5.size)
              | (refine step_app (by rfl) (.tmp 80) (.tmp 92) 41 (by rfl) Try.underlying41 infoGate hz4 (by decide) (by simp [Act.eval] <;> rfl) OA (by simp [Act.eval] <;> rfl) (Rd.lit w5 55 #[.int .i64 9, .int .i64 xa, .int .i64 xb, .int .i64 0] 1 4 rfl) (by simp [Value.oneCell']) (by omega) (by decide) (by simp <;> omega) ?_; intro A6 c6 w6 o6 g6; have Z6 := ZA.kept g6 (own_types ZA OA (by decide)); have T6 := TA.grown OA g6 (.inr (Nat.le_refl _)) (by decide) (by omega); have j0 := T6.cellA HKA.out; have j1 := T6.cellB HKB.out; have j2 := row_atz Z6 hkan HKA.out HZA.out; have j3 := row_atz Z6 hkbn HKB.out HZB.out) | fail)
          all_goals go_wp2_with fail
          all_goals go_ret2
          all_goals rw [HRT1.out, HRT2.out, ← HQ1.out, ← HQ2.out, HNR.out]
          all_goals exact retGI (by rw [List.length_append, HOL.out]; rfl) HZL2.out (by rw [cellsG_append]; exact o6) (by omega) Z6 (Nat.le_refl _) T6.2.2
    · have HAR := Lib.hid har
      have HRR := Lib.hid (routeG_one HMAY.out har)
      have hk9 : (g.k != 9) = true := by have := basic_ne har; simpa using this
      clear har
      obtain ⟨za, hza⟩ : ∃ v, zAt zs g.a = v := ⟨_, rfl⟩
      rw [hza] at HRR
      obtain ⟨bz, fz, xa, hAz, hBz, hda, ca⟩ := (HZ.out.below T2.out.2.2).at_ (show ka < nz by omega)
      subst hAz
      obtain rfl : xa = za := by rw [← hza, zAt_nat zs HKA.out]; exact (drop_getD hda).symm
      clear hza hda
      obtain ⟨bz0, fz0, xa0, hAz0, hbw, hda0, ca0⟩ := HZ.out.at_ (show ka < nz by omega)
      injection hAz0 with hAz0
      injection hAz0 with e1 e2 _
      subst e1 e2
      rw [T2.out.2.2.cell (p := ⟨bz, fz + ka, none⟩) hbw] at ca
      rw [ca] at ca0
      injection ca0 with ca0
      injection ca0 with _ ca0
      subst ca0
      have ca0 := ca
      rw [← T2.out.2.2.cell (p := ⟨bz, fz + ka, none⟩) hbw] at ca
      clear hda0
      have hz4 : (Value.agg #[.int .i64 0, .int .i64 0, .int .i64 0, .int .i64 0]).cells.size = 4 := rfl
      have hi0 : (0 : Int) ≤ (ka : Int) := by omega
      have hgl : w.heap.size < w2.heap.size := by omega
      go_wp2_with fail
      go_region_held3 (fun w' => w'.cell? ⟨w.heap.size, 0, none⟩ = some (.int .i64 g.k) ∧ w'.cell? ⟨w.heap.size, 1, none⟩ = some (.int .i64 (ka : Int)) ∧ w'.cell? ⟨bz, fz + ka, none⟩ = some (.int .i64 xa))
        (first | go_keep | exact ⟨k0, k1, k2⟩ | exact ⟨j0, j1, j2⟩)
        (first
          | (go_at_call 147; (with_reducible refine (s_one g.k xa _).mono ?_); rintro e w5 ⟨rfl, b5⟩; have k0 := (b5.cell (p := ⟨w.heap.size, 0, none⟩) hgl).trans p0; have k1 := (b5.cell (p := ⟨w.heap.size, 1, none⟩) hgl).trans p1; have k2 := (b5.cell (p := ⟨bz, fz + ka, none⟩) hBz).trans ca; have nn0 := World.new_ne w5 _ k0; have nn1 := World.new_ne w5 _ k1; have nn2 := World.new_ne w5 _ k2; have TT5 := T2.out.drew.below b5; have ZZ5 := ownsRow_below (ownsRow_drew O2.out) b5; have hs5 : w.heap.size + 2 ≤ w5.heap.size := Nat.le_trans hs2 b5.size; have GA := (ownsRow_below (ownsRow_drew OG2.out) b5).alloc (.cells #[.int .i64 g.k, .int .i64 xa, .int .i64 0, .int .i64 0] 55); have ZA := ZZ5.alloc (.cells #[.int .i64 g.k, .int .i64 xa, .int .i64 0, .int .i64 0] 55); have TA := TT5.below ((Below.refl _ _).alloc (Nat.le_refl _) (.cells #[.int .i64 g.k, .int .i64 xa, .int .i64 0, .int .i64 0] 55)); have SZ := (HZ.out.below TA.2.2))
          | (refine step_app0 (by rfl) (.tmp 25) (.tmp 34) 41 (by rfl) Try.underlying41 infoGate hz4 (by decide) (by simp [Act.eval] <;> rfl) GA (by simp [Act.eval] <;> rfl) (Rd.lit w5 55 #[.int .i64 g.k, .int .i64 xa, .int .i64 0, .int .i64 0] 1 4 rfl) (by simp [Value.oneCell']) (by omega) (by decide) (by simp <;> omega) ?_; intro A6 c6 w6 o6 g6; have Z6 := ZA.kept g6 (own_types ZA GA (by decide)); have T6 := TA.grown GA g6 (.inr (Nat.le_refl _)) (by decide) (by omega); have j0 := T6.1.cell 0; have j1 := T6.cellA HKA.out; have j2 := (T6.2.2.cell (p := ⟨bz, fz + ka, none⟩) hbw).trans ca0) | fail)
      all_goals go_wp2_with fail
      all_goals go_ret2
      all_goals rw [HRR.out]
      all_goals exact retGI rfl HZL.out o6 (by omega) Z6 (Nat.le_refl _) T6.2.2
end Go.Proofs.Ytibhikngiceeeaa
namespace Go.Proofs.Ytibhikngiceeeaa
open Go.ChangeShapes Go.WideShapes Go.ChangeAt Go.RowKit Go.Deep

def I64 (n : Int) : Prop := -9223372036854775808 ≤ n ∧ n ≤ 9223372036854775807
theorem i64_of_wf {n : Int} (h : (Lit.int .i64 n).wf = true) : I64 n := by
  simpa [Lit.wf, IntKind.min, IntKind.max, IntKind.signed, IntKind.bits, I64] using h
def Gt.ok (g : Gt) : Prop := I64 g.k ∧ I64 g.a ∧ I64 g.b ∧ I64 g.c

theorem addr_plain {w : World} {a : Addr} {v : Value} (h : w.cell? (a.add 0) = some v) : ∃ b off, a = ⟨b, off, none⟩ ∧ b < w.heap.size := by
  obtain ⟨b, off, spot⟩ := a
  have e : spot = none := by simpa [Addr.add] using World.cell?_spot h
  subst e
  exact ⟨b, off, rfl, by simpa [Addr.add] using World.block_lt_of_cell? w _ h⟩
theorem add_lit (b off j : Nat) : (⟨b, off, none⟩ : Addr).add j = ⟨b, off + j, none⟩ := by
  unfold Addr.add
  split
  · subst j; rfl
  · rfl

section
variable {H : Type} {enc : TypeId × Value → H} {P : Program} {w : World} {base : Nat} {spare : Nat → Bool} {held : Bool}

theorem choose_list {α : Type} (n : Nat) (p : Nat → α → Prop) (h : ∀ i, i < n → ∃ x, p i x) : ∃ l : List α, l.length = n ∧ ∀ i x, l[i]? = some x → p i x := by
  induction n with
  | zero => exact ⟨[], rfl, fun i x hx => by simp at hx⟩
  | succ n ih =>
    obtain ⟨l, hl, hp⟩ := ih fun i hi => h i (by omega)
    obtain ⟨x, hx⟩ := h n (by omega)
    refine ⟨l ++ [x], by simp [hl], fun i y hy => ?_⟩
    rw [List.getElem?_append] at hy
    split at hy
    · exact hp i y hy
    · rename_i hge
      have : i - l.length = 0 := by
        rcases Nat.eq_zero_or_pos (i - l.length) with h0 | h0
        · exact h0
        · rw [List.getElem?_eq_none (by simp; omega)] at hy; cases hy
      rw [this] at hy
      simp at hy
      subst hy
      obtain rfl : i = n := by omega
      exact hx

theorem open_rows {t e : TypeId} {fuel sz : Nat} {v : Value} {x : DataW H × List MemPlace} (hC : P.cellsOf e = sz) (hsz : 0 < sz) (ht : P.underlying t = some (.slice e)) (h : DataW.trod enc P w base spare held fuel t [v] = some x) :
    ∃ A n cap, v = .slice A n cap ∧ n ≤ cap ∧ cap ≤ maxLen ∧ (A = none → n = 0 ∧ cap = 0) ∧
      ∃ l : List (List Value), l.length = n ∧ (∀ c ∈ l, c.length = sz ∧ ∃ m y, DataW.trod enc P w base spare held m e c = some y) ∧
        (0 < n → ∃ b off, A = some ⟨b, off, none⟩ ∧ b < w.heap.size ∧ ∀ i c j u, l[i]? = some c → c[j]? = some u → w.cell? ⟨b, off + (i * sz + j), none⟩ = some u) := by
  rcases open_slice ht h with ⟨h0, _⟩ | ⟨a, len, cap, m, n, D, Pl, hcs, hb, hl, hm, hmm, hx, hi⟩
  · simp at h0
    subst h0
    exact ⟨none, 0, 0, rfl, by omega, by simp [maxLen], fun _ => ⟨rfl, rfl⟩, [], rfl, fun c hc => by simp at hc, fun h => absurd h (by omega)⟩
  · simp at hcs
    subst hcs
    refine ⟨some a, len, cap, rfl, hl, hm, (fun h => by simp at h), ?_⟩
    have hle : len ≤ m := by rw [hmm]; split <;> omega
    obtain ⟨l, hll, hp⟩ := choose_list len (fun i c => c.length = sz ∧ (∃ m y, DataW.trod enc P w base spare held m e c = some y) ∧ ∀ j u, c[j]? = some u → w.cell? (a.add (i * sz + j)) = some u) (fun i hi' => by
      obtain ⟨cs', hc, ht'⟩ := hi i (by omega)
      rw [hC] at hc
      obtain ⟨_, hcl, hat⟩ := World.cells?_some hc
      refine ⟨cs', hcl, ⟨_, _, ht'⟩, fun j u hu => ?_⟩
      have hjl : j < sz := by
        rcases Nat.lt_or_ge j cs'.length with h | h
        · omega
        · rw [List.getElem?_eq_none h] at hu; cases hu
      have := hat j hjl
      rw [hu] at this
      rw [← Go.Deep.add_add]
      exact this)
    refine ⟨l, hll, fun c hc => ?_, fun hn => ?_⟩
    · obtain ⟨i, hi1, rfl⟩ := List.getElem_of_mem hc
      obtain ⟨h1, h2, _⟩ := hp i l[i] (List.getElem?_eq_getElem hi1)
      exact ⟨h1, h2⟩
    · have h0 : l[0]? = some (l[0]'(by omega)) := List.getElem?_eq_getElem (by omega)
      obtain ⟨g1, _, g3⟩ := hp 0 _ h0
      have h00 : (l[0]'(by omega))[0]? = some ((l[0]'(by omega))[0]'(by omega)) := List.getElem?_eq_getElem (by omega)
      have hc0 := g3 0 _ h00
      simp only [Nat.zero_mul, Nat.add_zero] at hc0
      obtain ⟨b, off, rfl, hlt⟩ := addr_plain hc0
      refine ⟨b, off, rfl, hlt, fun i c j u hc hu => ?_⟩
      obtain ⟨_, _, k3⟩ := hp i c hc
      rw [← add_lit]
      exact k3 j u hu

theorem flat_at (sz : Nat) : ∀ (l : List (List Value)) (j : Nat) (u : Value), (∀ c ∈ l, c.length = sz) → l.flatten[j]? = some u → ∃ i c k, l[i]? = some c ∧ c[k]? = some u ∧ j = i * sz + k
  | [], j, u, _, h => by simp at h
  | c :: r, j, u, hl, h => by
    have hc := hl c (by simp)
    rw [List.flatten_cons, List.getElem?_append] at h
    split at h
    · exact ⟨0, c, j, by simp, h, by omega⟩
    · obtain ⟨i, c', k, h1, h2, h3⟩ := flat_at sz r (j - c.length) u (fun c hc => hl c (by simp [hc])) h
      refine ⟨i + 1, c', k, by simpa using h1, h2, ?_⟩
      rw [Nat.add_mul]; omega

theorem rd_rows {A : Option Addr} {n sz : Nat} {l : List (List Value)} (hl : l.length = n) (hc : ∀ c ∈ l, c.length = sz)
    (h : 0 < n → ∃ b off, A = some ⟨b, off, none⟩ ∧ b < w.heap.size ∧ ∀ i c j u, l[i]? = some c → c[j]? = some u → w.cell? ⟨b, off + (i * sz + j), none⟩ = some u) : Rd w sz A n l.flatten := by
  refine ⟨?_, fun hn => ?_⟩
  · subst hl
    clear h
    induction l with
    | nil => simp
    | cons c r ih =>
      rw [List.flatten_cons, List.length_append, ih fun c hc' => hc c (by simp [hc']), hc c (by simp), List.length_cons, Nat.add_mul]; omega
  · obtain ⟨b, off, e, hb, hh⟩ := h hn
    refine ⟨b, off, e, hb, fun j u hu => ?_⟩
    obtain ⟨i, c, k, h1, h2, rfl⟩ := flat_at sz l j u hc hu
    exact hh i c k u h1 h2

theorem map_of {α : Type} (f : α → List Value) (ok : α → Prop) (l : List (List Value)) (h : ∀ c ∈ l, ∃ g, c = f g ∧ ok g) : ∃ gs : List α, l = gs.map f ∧ ∀ g ∈ gs, ok g := by
  induction l with
  | nil => exact ⟨[], rfl, fun g hg => by simp at hg⟩
  | cons c r ih =>
    obtain ⟨gs, e, hk⟩ := ih fun c hc => h c (by simp [hc])
    obtain ⟨g, rfl, hg⟩ := h c (by simp)
    exact ⟨g :: gs, by simp [e], fun x hx => by
      rcases List.mem_cons.1 hx with rfl | hx
      · exact hg
      · exact hk x hx⟩

theorem open_gates {t e : TypeId} {fuel : Nat} {v : Value} {x : DataW H × List MemPlace} {f0 f1 f2 f3 : Field} (ht : P.underlying t = some (.slice e)) (he : P.underlying e = some (.struct #[f0, f1, f2, f3]))
    (hone : oneCellFields P #[f0, f1, f2, f3] = true) (hC : P.cellsOf e = 4) (h0 : P.underlying f0.type = some (.int .i64)) (h1 : P.underlying f1.type = some (.int .i64)) (h2 : P.underlying f2.type = some (.int .i64)) (h3 : P.underlying f3.type = some (.int .i64))
    (h : DataW.trod enc P w base spare held fuel t [v] = some x) :
    ∃ A n cap gs, v = .slice A n cap ∧ RdG w A n gs ∧ n ≤ cap ∧ cap ≤ maxLen ∧ ∀ g ∈ gs, g.ok := by
  obtain ⟨A, n, cap, rfl, h4, h5, _, l, hl, hc, hr⟩ := open_rows hC (by omega) ht h
  obtain ⟨gs, rfl, hok⟩ := map_of Gt.cells Gt.ok l (fun c hcm => by
    obtain ⟨hlen, m, y, hy⟩ := hc c hcm
    obtain ⟨ys, n', _, _, _, _, hf⟩ := DataW.trod_struct he hy
    obtain ⟨c0, c1, c2, c3, rfl⟩ : ∃ c0 c1 c2 c3, c = [c0, c1, c2, c3] := by
      match c, hlen with
      | [c0, c1, c2, c3], _ => exact ⟨c0, c1, c2, c3, rfl⟩
    have g : ∀ (i : Nat) (f : Field) (u : Value), #[f0, f1, f2, f3][i]? = some f → [c0, c1, c2, c3][i]? = some u → P.underlying f.type = some (.int .i64) → ∃ z, u = .int .i64 z ∧ I64 z := by
      intro i f u hi hu hi64
      obtain ⟨ho, hk⟩ := hone_of hone i f hi
      have hyi := hf i f hi
      rw [ho, hk] at hyi
      have hil : i < 4 := by have := (Array.getElem?_eq_some_iff.1 hi).1; simpa using this
      have hil' : i < [c0, c1, c2, c3].length := by simpa using hil
      have e1 : ([c0, c1, c2, c3].drop i).take 1 = [u] := by
        rw [List.drop_eq_getElem_cons hil']
        rw [List.getElem?_eq_getElem hil'] at hu
        simp at hu
        simp [hu]
      rw [e1] at hyi
      have hys : ∃ y, ys[i]? = some y := by
        have : i < ys.length := by simp_all
        exact ⟨_, List.getElem?_eq_getElem this⟩
      obtain ⟨y', hy'⟩ := hys
      rw [hy'] at hyi
      obtain ⟨z, hz, _, hw⟩ := DataW.trod_int hi64 hyi
      simp at hz
      exact ⟨z, hz, i64_of_wf hw⟩
    obtain ⟨z0, rfl, b0⟩ := g 0 f0 c0 rfl rfl h0
    obtain ⟨z1, rfl, b1⟩ := g 1 f1 c1 rfl rfl h1
    obtain ⟨z2, rfl, b2⟩ := g 2 f2 c2 rfl rfl h2
    obtain ⟨z3, rfl, b3⟩ := g 3 f3 c3 rfl rfl h3
    exact ⟨⟨z0, z1, z2, z3⟩, rfl, b0, b1, b2, b3⟩)
  refine ⟨A, n, cap, gs, rfl, ⟨by simpa using hl, ?_⟩, h4, h5, hok⟩
  have := rd_rows hl (fun c hcm => (hc c hcm).1) hr
  rwa [← List.flatMap_def] at this

theorem open_pairs {t e : TypeId} {fuel : Nat} {v : Value} {x : DataW H × List MemPlace} {f0 f1 : Field} (ht : P.underlying t = some (.slice e)) (he : P.underlying e = some (.struct #[f0, f1]))
    (hone : oneCellFields P #[f0, f1] = true) (hC : P.cellsOf e = 2) (h0 : P.underlying f0.type = some (.int .i64)) (h1 : P.underlying f1.type = some (.int .i64))
    (h : DataW.trod enc P w base spare held fuel t [v] = some x) :
    ∃ A n cap ps, v = .slice A n cap ∧ RdP w A n ps ∧ n ≤ cap ∧ cap ≤ maxLen ∧ ∀ g ∈ ps, I64 g.1 ∧ I64 g.2 := by
  obtain ⟨A, n, cap, rfl, h4, h5, _, l, hl, hc, hr⟩ := open_rows hC (by omega) ht h
  obtain ⟨gs, rfl, hok⟩ := map_of (fun p : Int × Int => [Value.int .i64 p.1, .int .i64 p.2]) (fun p => I64 p.1 ∧ I64 p.2) l (fun c hcm => by
    obtain ⟨hlen, m, y, hy⟩ := hc c hcm
    obtain ⟨ys, n', _, _, _, _, hf⟩ := DataW.trod_struct he hy
    obtain ⟨c0, c1, rfl⟩ : ∃ c0 c1, c = [c0, c1] := by
      match c, hlen with
      | [c0, c1], _ => exact ⟨c0, c1, rfl⟩
    have g : ∀ (i : Nat) (f : Field) (u : Value), #[f0, f1][i]? = some f → [c0, c1][i]? = some u → P.underlying f.type = some (.int .i64) → ∃ z, u = .int .i64 z ∧ I64 z := by
      intro i f u hi hu hi64
      obtain ⟨ho, hk⟩ := hone_of hone i f hi
      have hyi := hf i f hi
      rw [ho, hk] at hyi
      have hil : i < 2 := by have := (Array.getElem?_eq_some_iff.1 hi).1; simpa using this
      have hil' : i < [c0, c1].length := by simpa using hil
      have e1 : ([c0, c1].drop i).take 1 = [u] := by
        rw [List.drop_eq_getElem_cons hil']
        rw [List.getElem?_eq_getElem hil'] at hu
        simp at hu
        simp [hu]
      rw [e1] at hyi
      have hys : ∃ y, ys[i]? = some y := by
        have : i < ys.length := by simp_all
        exact ⟨_, List.getElem?_eq_getElem this⟩
      obtain ⟨y', hy'⟩ := hys
      rw [hy'] at hyi
      obtain ⟨z, hz, _, hw⟩ := DataW.trod_int hi64 hyi
      simp at hz
      exact ⟨z, hz, i64_of_wf hw⟩
    obtain ⟨z0, rfl, b0⟩ := g 0 f0 c0 rfl rfl h0
    obtain ⟨z1, rfl, b1⟩ := g 1 f1 c1 rfl rfl h1
    exact ⟨(z0, z1), rfl, b0, b1⟩)
  refine ⟨A, n, cap, gs, rfl, ⟨by simpa using hl, ?_⟩, h4, h5, hok⟩
  have := rd_rows hl (fun c hcm => (hc c hcm).1) hr
  rwa [← List.flatMap_def] at this

theorem flat_ones (k : IntKind) (gs : List Int) : gs.map (Value.int k) = (gs.map fun z : Int => [Value.int k z]).flatten := by
  induction gs with
  | nil => rfl
  | cons a r ih => simp only [List.map_cons, List.flatten_cons, ih, List.singleton_append]

theorem open_nums {t e : TypeId} {fuel : Nat} {v : Value} {x : DataW H × List MemPlace} (ht : P.underlying t = some (.slice e)) (he : P.underlying e = some (.int .i64)) (hC : P.cellsOf e = 1)
    (h : DataW.trod enc P w base spare held fuel t [v] = some x) :
    ∃ A n cap zs, v = .slice A n cap ∧ RdI w A n zs ∧ n ≤ cap ∧ cap ≤ maxLen ∧ ∀ z ∈ zs, I64 z := by
  obtain ⟨A, n, cap, rfl, h4, h5, _, l, hl, hc, hr⟩ := open_rows hC (by omega) ht h
  obtain ⟨gs, rfl, hok⟩ := map_of (fun z : Int => [Value.int .i64 z]) I64 l (fun c hcm => by
    obtain ⟨hlen, m, y, hy⟩ := hc c hcm
    obtain ⟨z, hz, _, hw⟩ := DataW.trod_int he hy
    exact ⟨z, hz, i64_of_wf hw⟩)
  refine ⟨A, n, cap, gs, rfl, ⟨by simpa using hl, ?_⟩, h4, h5, hok⟩
  have := rd_rows hl (fun c hcm => (hc c hcm).1) hr
  rwa [← flat_ones] at this

theorem open_bytes {t e : TypeId} {fuel : Nat} {v : Value} {x : DataW H × List MemPlace} (ht : P.underlying t = some (.slice e)) (he : P.underlying e = some (.int .u8)) (hC : P.cellsOf e = 1)
    (h : DataW.trod enc P w base spare held fuel t [v] = some x) :
    ∃ (A : Option Addr) (n cap : Nat) (zs : List Int), v = .slice A n cap ∧ (zs.length = n ∧ Rd w 1 A n (zs.map (Value.int .u8))) ∧ n ≤ cap ∧ cap ≤ maxLen ∧ ∀ z ∈ zs, 0 ≤ z ∧ z ≤ 255 := by
  obtain ⟨A, n, cap, rfl, h4, h5, _, l, hl, hc, hr⟩ := open_rows hC (by omega) ht h
  obtain ⟨gs, rfl, hok⟩ := map_of (fun z : Int => [Value.int .u8 z]) (fun z => 0 ≤ z ∧ z ≤ 255) l (fun c hcm => by
    obtain ⟨hlen, m, y, hy⟩ := hc c hcm
    obtain ⟨z, hz, _, hw⟩ := DataW.trod_int he hy
    exact ⟨z, hz, by simpa [Lit.wf, IntKind.min, IntKind.max, IntKind.signed, IntKind.bits] using hw⟩)
  refine ⟨A, n, cap, gs, rfl, ⟨by simpa using hl, ?_⟩, h4, h5, hok⟩
  have := rd_rows hl (fun c hcm => (hc c hcm).1) hr
  rwa [← flat_ones] at this
end
end Go.Proofs.Ytibhikngiceeeaa
namespace Go.Proofs.Ytibhikngiceeeaa
open Go.RowKit

theorem ownsRow_pre {w : World} {base : Nat} {e : TypeId} {sz n c k : Nat} {A : Option Addr} {xs : List Value} (h : w.ownsRow base e sz (.slice A n c) n xs) (hk : k ≤ n) : w.ownsRow base e sz (.slice A k c) k (xs.take (k * sz)) := by
  have hl := h.1
  have hle : k * sz ≤ n * sz := Nat.mul_le_mul_right _ hk
  refine ⟨by rw [List.length_take, hl]; omega, ?_⟩
  rcases h.2 with ⟨h0, h1⟩ | ⟨g, cap, cur, h1, h2, h3, h4, h5, h6, h7⟩
  · left
    injection h0 with hA _ hc
    obtain rfl : k = 0 := by omega
    rw [hA, hc]
    exact ⟨rfl, rfl⟩
  · right
    injection h1 with hA _ hc
    refine ⟨g, cap, cur, by rw [hA, hc], h2, h3, by omega, h5, h6, ?_⟩
    rw [← h7, List.take_take, Nat.min_eq_left hle]
theorem sl_hI (A : Option Addr) (n c hi : Nat) (h2 : hi ≤ c) (w : World) :
    (Instr.slice 62 (.slice A n c) none (some (.int .i64 (hi : Int))) none).run Try.prog w = .ok (.slice A hi c) w := by
  have hz : (sizeOf (Try.prog.elem 62)).run Try.prog w = .ok 1 w := by kernel_rfl
  rw [run_slice_h w 62 A n c (by kernel_rfl) .i64 hi (by omega) (by omega), hz]
  simp only [Result.andThen, sliced, Int.toNat_natCast]
  cases A <;> simp [Addr.add]
theorem i64_set {zs : List Int} (h : ∀ z ∈ zs, I64 z) {x : Int} (hx : I64 x) (k : Nat) : ∀ z ∈ zs.set k x, I64 z := by
  intro z hz
  rcases List.mem_or_eq_of_mem_set hz with h1 | h1
  · exact h z h1
  · rw [h1]; exact hx
theorem i64_perm {zs : List Int} (h : isPerm zs = true) : ∀ z ∈ zs, I64 z := by
  intro z hz
  obtain ⟨h1, _, _, h4⟩ := (isPerm_iff zs).1 h
  have := h1 z hz
  unfold I64
  omega

set_option maxRecDepth 100000 in
set_option maxHeartbeats 1600000 in
theorem s_l8Bent (g : Nat) (w : World) (h : Cur w g) : Calls Try.prog 137 #[.pointer (some ⟨g, 0, none⟩)] w (DrawnI (fun zs => zs.length ≤ 5 ∧ ∀ z ∈ zs, I64 z) g w) := by
  have H := Lib.hid h
  have hgw := h.lt
  clear h
  go_enter Try.func137, Try.ntmps137
  go_wp2_with fail
  refine (s_l1Below _ _ _ H.out (by omega)).mono ?_
  rintro e w1 ⟨y, rfl, ⟨hy, _⟩, hc1, g1⟩
  obtain ⟨hy0, hy1⟩ := hy (by omega)
  obtain ⟨n0, hn0⟩ : ∃ n : Nat, 1 + y = n := ⟨(1 + y).toNat, by omega⟩
  have hs1 := g1.size
  go_wp2_with fail
  refine (s_l8Perm g n0 _ hc1 (by omega) (by omega)).mono ?_
  rintro e w2 ⟨A2, n2, c2, z2, rfl, hl2, ⟨hl2', hp2⟩, o2, hc2, g2⟩
  have hn2 : n2 = n0 := by rw [← hl2, hl2']
  subst hn2
  obtain ⟨b, hA2⟩ : ∃ b, A2 = some ⟨b, 0, none⟩ := by
    rcases o2.2 with ⟨_, h0⟩ | ⟨b, cap, cur, hv, _⟩
    · omega
    · injection hv with hv _ _; exact ⟨b, hv⟩
  subst hA2
  have hbw : w.heap.size ≤ b := by have := (o2.lt b rfl).1; omega
  have hcap := ownsRow_cap o2
  have O2 := Lib.hid (ownsRow_base o2 (show w.heap.size ≤ w1.heap.size from hs1))
  have HL2 := Lib.hid hl2
  have HP2 := Lib.hid (i64_perm hp2)
  have C2 := Lib.hid hc2
  have G2 := Lib.hid (dr_trans g1 g2)
  have hn1 : 1 ≤ n2 := by omega
  have hn4 : n2 ≤ 4 := by omega
  clear hy hn0 hl2 hl2' hp2 hc1 hc2 g1 g2 o2 H hs1
  go_wp2_with fail
  refine (s_l1Below _ _ _ C2.out (by omega)).mono ?_
  rintro e w3 ⟨x, rfl, _, hc3, g3⟩
  have O3 := Lib.hid (dr_own g3 C2.out O2.out (by decide))
  have C3 := Lib.hid hc3
  have G3 := Lib.hid (dr_trans G2.out g3)
  have hgs3 : g + 1 ≤ w3.heap.size := hc3.lt
  clear hc3 g3 C2 O2 G2
  by_cases hx0 : x = 0
  · subst hx0
    go_wp2_with fail
    refine (s_l1Below _ _ _ C3.out (by omega)).mono ?_
    rintro e w4 ⟨i, rfl, ⟨hi, _⟩, hc4, g4⟩
    obtain ⟨hi0, hi1⟩ := hi (by omega)
    obtain ⟨k, rfl⟩ : ∃ k : Nat, i = k := ⟨i.toNat, by omega⟩
    have O4 := Lib.hid (dr_own g4 C3.out O3.out (by decide))
    have G4 := Lib.hid (dr_trans G3.out g4)
    have hgs4 : g + 1 ≤ w4.heap.size := hc4.lt
    have hs4 : w.heap.size ≤ w4.heap.size := G4.out.size
    have C4 := Lib.hid hc4
    clear hi hc4 g4 O3 C3 G3
    go_wp2_with fail
    refine (s_l1PickInt g _ 5 5 [0, 1, 4, -1, 9223372036854775807] _ (C4.out.below ((Below.refl _ _).alloc (Nat.le_refl _) _)) (World.ownsRow_lit w4 #[.int .i64 0, .int .i64 1, .int .i64 4, .int .i64 (-1), .int .i64 9223372036854775807] 5 hgs4 (by simp [maxLen]) rfl) (by omega) (by omega)).mono ?_
    rintro e w5 ⟨v, rfl, hv, hc5, g5⟩
    have hv64 : I64 v := by
      simp at hv
      unfold I64
      omega
    have O5 := dr_own g5 (C4.out.below ((Below.refl _ _).alloc (Nat.le_refl _) _)) (O4.out.alloc _) (by decide)
    have G5 := Lib.hid (dr_trans (dr_below G4.out ((Below.refl _ _).alloc (Nat.le_refl _) _)) g5)
    have ck := (O5.cellAt k (by omega)).trans (show (cellsI z2)[k]? = some (.int .i64 (z2[k]'(by have := HL2.out; omega))) from by have := HL2.out; first | (simp [cellsI]; omega) | simp [cellsI])
    have fk := O5.frozenAt k
    have OO5 := Lib.hid O5
    have C5 := Lib.hid hc5
    have hkI : (k : Int) < (n2 : Int) := by omega
    clear O5 hc5 g5 hv O4 C4 G4
    go_wp2_with fail
    go_ret
    have s1 := OO5.out.stored k (.int .i64 v)
    rw [cellsI_set] at s1
    exact ⟨_, n2, c2, z2.set k v, rfl, by simp [HL2.out], ⟨by simp [HL2.out]; omega, i64_set HP2.out hv64 k⟩, s1.1, C5.out.setCell (by show g < b; omega) _, dr_set G5.out hbw _⟩
  · by_cases hx1 : x = 1
    · subst hx1
      go_wp2_with fail
      refine (s_l1Below _ _ _ C3.out (by omega)).mono ?_
      rintro e w4 ⟨i, rfl, ⟨hi, _⟩, hc4, g4⟩
      obtain ⟨hi0, hi1⟩ := hi (by omega)
      obtain ⟨k, rfl⟩ : ∃ k : Nat, i = k := ⟨i.toNat, by omega⟩
      have O4 := Lib.hid (dr_own g4 C3.out O3.out (by decide))
      have G4 := Lib.hid (dr_trans G3.out g4)
      have C4 := Lib.hid hc4
      have hsl := sl_hI (some ⟨b, 0, none⟩) n2 c2 k (by omega)
      clear hi hc4 g4 O3 C3 G3
      go_wp2_with fail
      go_ret
      have s1 := ownsRow_pre O4.out (show k ≤ n2 by omega)
      rw [Nat.mul_one, show (cellsI z2).take k = cellsI (z2.take k) from by simp [cellsI, List.map_take]] at s1
      exact ⟨_, k, c2, z2.take k, rfl, by rw [List.length_take, HL2.out]; omega, ⟨by rw [List.length_take, HL2.out]; omega, fun z hz => HP2.out z (List.mem_of_mem_take hz)⟩, s1, C4.out, G4.out⟩
    · by_cases hx2 : x = 2
      · subst hx2
        have hs3 : w.heap.size ≤ w3.heap.size := G3.out.size
        go_wp2_with (at_builtin; refine wpList_app rfl (.tmp 32) (.tmp 35) 62 rfl Try.underlying62 infoInt1 rfl (by decide) rfl (O3.out.alloc _) rfl (Rd.lit _ 3 #[.int .i64 (n2 : Int)] 1 1 rfl) (by simp [Value.oneCell']) (by omega) (by decide) (by simp <;> omega) ?_; intro A4 c4 w4 o4 g4)
        go_ret
        refine ⟨A4, n2 + 1, c4, z2 ++ [(n2 : Int)], rfl, by simp [HL2.out], ⟨by simp [HL2.out]; omega, ?_⟩, by rw [cellsI_append]; exact o4, ?_, ?_⟩
        · intro z hz
          rcases List.mem_append.1 hz with hz | hz
          · exact HP2.out z hz
          · simp at hz; subst hz; unfold I64; omega
        · exact (C3.out.below ((Below.refl _ _).alloc (Nat.le_refl _) _)).row g4 (fun k hk => by have := (O3.out.lt k hk).1; omega)
        · exact dr_row (dr_below G3.out ((Below.refl _ _).alloc (Nat.le_refl _) _)) g4 (fun k hk => (O3.out.lt k hk).1)
      · have e0 : (x == 0) = false := by simpa using hx0
        have e1 : (x == 1) = false := by simpa using hx1
        have e2 : (x == 2) = false := by simpa using hx2
        clear hx0 hx1 hx2
        go_wp2_with fail
        go_ret
        exact ⟨_, n2, c2, z2, rfl, HL2.out, ⟨by rw [HL2.out]; omega, HP2.out⟩, O3.out, C3.out, G3.out⟩

end Go.Proofs.Ytibhikngiceeeaa
namespace Go.Proofs.Ytibhikngiceeeaa
open Go.RowKit
set_option linter.unusedVariables false

/-- What stands while l36Bent runs: the result's box, the graph's box, its edges, the cursor. -/
def QSt (w : World) (R E g : Nat) (N : Int) (A : Option Addr) (m c : Nat) (ps : List (Int × Int)) (wr : World) : Prop :=
  Bx wr R 61 #[.int .i64 0, .slice none 0 0] ∧ Bx wr E 61 #[.int .i64 N, .slice A m c] ∧ wr.ownsRow w.heap.size 167 2 (.slice A m c) m (cellsP ps) ∧ Cur wr g ∧ w.grownBy wr (some g) ∧ ps.length = m ∧ (g < w.heap.size ∧ w.heap.size ≤ R ∧ R < E)
section
variable {w : World} {R E g : Nat} {N : Int} {A : Option Addr} {m c : Nat} {ps : List (Int × Int)} {wr w' : World}
theorem QSt.draw (h : QSt w R E g N A m c ps wr) (hc : Cur w' g) (gg : wr.grownBy w' (some g)) : QSt w R E g N A m c ps w' := by
  obtain ⟨h1, h2, h3, h5, h6, h7, h9⟩ := h
  exact ⟨dr_bx gg h1 (by omega), dr_bx gg h2 (by omega), dr_own gg h5 h3 (by decide), hc, dr_trans h6 gg, h7, h9⟩
theorem QSt.below (h : QSt w R E g N A m c ps wr) (hb : Below wr.heap.size wr w') : QSt w R E g N A m c ps w' := by
  obtain ⟨h1, h2, h3, h5, h6, h7, h9⟩ := h
  exact ⟨h1.below hb, h2.below hb, ownsRow_below h3 hb, h5.below hb, dr_below h6 hb, h7, h9⟩
theorem QSt.alloc (h : QSt w R E g N A m c ps wr) (o : Obj) : QSt w R E g N A m c ps (wr.alloc o) := h.below ((Below.refl _ _).alloc (Nat.le_refl _) _)
theorem QSt.drew (h : QSt w R E g N A m c ps wr) : QSt w R E g N A m c ps wr.drew := h.below ((Below.refl _ _).drew)
theorem QSt.app {A' : Option Addr} {c' : Nat} {p : Int × Int} (h : QSt w R E g N A m c ps wr) (o7 : w'.ownsRow w.heap.size 167 2 (.slice A' (m + 1) c') (m + 1) (cellsP ps ++ [.int .i64 p.1, .int .i64 p.2])) (g7 : wr.grownBy w' (Value.slice A m c).ownBlock) : QSt w R E g N A' (m + 1) c' (ps ++ [p]) (w'.setCell ⟨E, 1, none⟩ (.slice A' (m + 1) c')) := by
  obtain ⟨h1, h2, h3, h5, h6, h7, h9⟩ := h
  have hl := fun q hq => (h3.lt q hq).1
  have e7 := kept_app h3 g7 h2 (by decide)
  have r7 := kept_app h3 g7 h1 (by decide)
  have c7 : Cur w' g := h5.row g7 (fun q hq => by have := hl q hq; omega)
  have d7 : w.grownBy w' (some g) := dr_row h6 g7 (fun q hq => by have := hl q hq; omega)
  refine ⟨r7.far (show R ≠ E by omega) _, e7.t1 _, ?_, c7.setCell (by show g < E; omega) _, dr_set d7 (by show w.heap.size ≤ E; omega) _, by simp [h7], h9⟩
  rw [cellsP_append]
  exact own_set_neD o7 (own_bx_ne o7 e7 (by decide)) _
theorem QSt.num (h : QSt w R E g N A m c ps wr) (x : Int) : QSt w R E g x A m c ps (wr.setCell ⟨E, 0, none⟩ (.int .i64 x)) := by
  obtain ⟨h1, h2, h3, h5, h6, h7, h9⟩ := h
  exact ⟨h1.far (show R ≠ E by omega) _, h2.t0 _, own_set_neD h3 (own_bx_ne h3 h2 (by decide)) _, h5.setCell (by show g < E; omega) _, dr_set h6 (by show w.heap.size ≤ E; omega) _, h7, h9⟩
theorem QSt.cut (h : QSt w R E g N A m c ps wr) {k : Nat} (hk : k ≤ m) : QSt w R E g N A k c (ps.take k) (wr.setCell ⟨E, 1, none⟩ (.slice A k c)) := by
  obtain ⟨h1, h2, h3, h5, h6, h7, h9⟩ := h
  have o := ownsRow_pre h3 hk
  rw [← cellsP_take] at o
  exact ⟨h1.far (show R ≠ E by omega) _, h2.t1 _, own_set_neD o (own_bx_ne o h2 (by decide)) _, h5.setCell (by show g < E; omega) _, dr_set h6 (by show w.heap.size ≤ E; omega) _, by simp [h7]; omega, h9⟩
theorem QSt.cells (h : QSt w R E g N A m c ps wr) : wr.cell? ⟨E, 0, none⟩ = some (.int .i64 N) ∧ wr.cell? ⟨E, 1, none⟩ = some (.slice A m c) ∧ wr.frozen? ⟨E, 0, none⟩ = false ∧ wr.frozen? ⟨E, 1, none⟩ = false := h.2.1.two
end
theorem wrapk_small {x : Int} (h : -9223372036854775808 ≤ x) (h2 : x ≤ 9223372036854775807) : IntKind.i64.wrap x = x := by
  rw [IntKind.wrap_i64]
  omega
theorem sl_hP (A : Option Addr) (n c hi : Nat) (h2 : hi ≤ c) (w : World) :
    (Instr.slice 59 (.slice A n c) none (some (.int .i64 (hi : Int))) none).run Try.prog w = .ok (.slice A hi c) w := by
  have hz : (sizeOf (Try.prog.elem 59)).run Try.prog w = .ok 2 w := by kernel_rfl
  rw [run_slice_h w 59 A n c (by kernel_rfl) .i64 hi (by omega) (by omega), hz]
  simp only [Result.andThen, sliced, Int.toNat_natCast]
  cases A <;> simp [Addr.add]

set_option maxRecDepth 100000 in
set_option maxHeartbeats 6400000 in
theorem s_l36Bent (g : Nat) (w : World) (h : Cur w g) : Calls Try.prog 165 #[.pointer (some ⟨g, 0, none⟩)] w (DrawnGr (fun _ => True) 17 g w) := by
  have hg := h.lt
  have hz2 : (Value.agg #[.int .i64 0, .int .i64 0]).cells.size = 2 := rfl
  have C1 := Lib.hid (cur_alloc h (.cells #[.int .i64 0, .slice none 0 0] 61))
  have R1 := Lib.hid (Bx.new w 61 #[.int .i64 0, .slice none 0 0])
  have G1 := Lib.hid (dr_alloc (dr_refl w g) (.cells #[.int .i64 0, .slice none 0 0] 61))
  clear h
  go_enter Try.func165, Try.ntmps165
  go_wp2_with fail
  refine (s_l1Below g 4 _ C1.out (by omega)).mono ?_
  rintro e w2 ⟨y, rfl, ⟨hy, _⟩, hc, gg⟩
  obtain ⟨hy0, hy1⟩ := hy (by omega)
  obtain ⟨q, hq⟩ : ∃ q : Nat, 1 + y = q := ⟨(1 + y).toNat, by omega⟩
  have hq1 : 1 ≤ q := by omega
  have hq4 : q ≤ 4 := by omega
  have C2 := Lib.hid hc
  have R2 := Lib.hid (dr_bx gg R1.out (show w.heap.size ≠ g by omega))
  have G2 := Lib.hid (dr_trans G1.out gg)
  have hs2 := (dr_un gg).size
  clear hy hc gg C1 R1 G1
  go_wp2_with fail
  clear hq hy0 hy1
  refine (s_l36Right g q _ C2.out hq1 hq4).mono ?_
  rintro e w3 ⟨N, A, m, c, ps, rfl, hl, hm, hNq, o3, hc, gg⟩
  clear hNq
  have hR3 := (dr_bx gg R2.out (show w.heap.size ≠ g by omega)).lt
  have SB := Lib.hid (show QSt w w.heap.size w3.heap.size g N A m c ps (w3.alloc (.cells #[.int .i64 N, .slice A m c] 61)) from
    ⟨(dr_bx gg R2.out (show w.heap.size ≠ g by omega)).alloc _, Bx.new w3 _ _, (ownsRow_base o3 (by omega)).alloc _, cur_alloc hc _, dr_alloc (dr_trans G2.out gg) _, hl, hg, Nat.le_refl _, hR3⟩)
  clear hl o3 hc gg C2 R2 G2
  go_wp2_with fail
  refine (s_l1Below g 8 _ SB.out.2.2.2.1 (by omega)).mono ?_
  rintro e w4 ⟨z, rfl, _, hc, gg⟩
  have HS := Lib.hid (SB.out.draw hc gg)
  have hgs : g + 1 ≤ w4.heap.size := hc.lt
  clear hc gg SB
  generalize hgE : w3.heap.size = E at HS hR3 ⊢
  clear hgE
  by_cases z0 : z = 0
  · subst z0
    have OL := Lib.hid (show (w4.alloc (.cells #[.int .i64 0, .int .i64 1, .int .i64 4, .int .i64 5, .int .i64 (-1)] 3)).ownsRow (g + 1) 3 1 (.slice (some ⟨w4.heap.size, 0, none⟩) 5 5) 5 (cellsI [0, 1, 4, 5, -1]) from World.ownsRow_lit w4 #[.int .i64 0, .int .i64 1, .int .i64 4, .int .i64 5, .int .i64 (-1)] 5 hgs (by simp [maxLen]) rfl)
    have SA := Lib.hid (HS.out.alloc (.cells #[.int .i64 0, .int .i64 1, .int .i64 4, .int .i64 5, .int .i64 (-1)] 3))
    go_wp2_with fail
    refine (s_l1PickInt g _ 5 5 [0, 1, 4, 5, -1] _ SA.out.2.2.2.1 OL.out (by omega) (by omega)).mono ?_
    rintro e w5 ⟨x, rfl, _, hc, gg⟩
    have S5 := Lib.hid (SA.out.draw hc gg)
    have S6 := Lib.hid (S5.out.num x)
    clear hc gg OL SA
    obtain ⟨u0, u1, v0, v1⟩ := S5.out.cells
    obtain ⟨e0, e1, f0, f1⟩ := S6.out.cells
    obtain ⟨r0, r1, _, _⟩ := S6.out.1.two
    go_wp2_with fail
    exact bodyPost_ret (v := .agg #[.int .i64 x, .slice A m c]) (by simp [results, Try.results165, go_sem, r0, r1]) rfl ⟨x, A, m, c, ps, rfl, S6.out.2.2.2.2.2.1, by omega, trivial, own_set2 S6.out.2.2.1 (own_bx_ne S6.out.2.2.1 S6.out.1 (by decide)), cur2 S6.out.2.2.2.1 hg, dr2 S6.out.2.2.2.2.1 (Nat.le_refl _)⟩
  · by_cases z1 : z = 1
    · subst z1
      obtain ⟨u0, u1, v0, v1⟩ := HS.out.cells
      have CD := Lib.hid (show Cur w4.drew g from HS.out.2.2.2.1)
      go_wp2_with fail
      go_region_law (first
        | (go_simp; go_at_call 62; (with_reducible refine (s_l1Below g 6 _ CD.out (by omega)).mono ?_); rintro e w5 ⟨y5, rfl, _, hc5, g5⟩; have S5 := HS.out.draw hc5 (und_grownD g5); have ⟨p0, p1, p2, p3⟩ := S5.cells)
        | (go_simp; go_at_call 62; (with_reducible refine (s_l1Below g 5 _ hc5 (by omega)).mono ?_); rintro e w6 ⟨y6, rfl, _, hc6, g6⟩; have S6 := S5.draw hc6 g6; have ⟨k0, k1, k2, k3⟩ := S6.cells; have SA := S6.alloc (.cells #[.int .i64 (IntKind.i64.wrap (y5 - 1)), .int .i64 y6] 167); have ⟨j0, j1, j2, j3⟩ := SA.cells; have hs6 := dr_trans HS.out.2.2.2.2.1 (dr_trans (und_grownD g5) g6); have hs6 := hs6.size)
        | (refine step_app (by rfl) (.tmp 20) (.tmp 27) 59 (by rfl) Try.underlying59 infoEdge hz2 (by decide) (by simp [Act.eval] <;> rfl) SA.2.2.1 (by simp [Act.eval] <;> rfl) (Rd.lit w6 167 #[.int .i64 (IntKind.i64.wrap (y5 - 1)), .int .i64 y6] 1 2 rfl) (by simp [Value.oneCell']) (by omega) (by decide) (by simp <;> omega) ?_; intro A7 c7 w7 o7 g7; have S7 := SA.app (p := (IntKind.i64.wrap (y5 - 1), y6)) o7 g7; have ⟨e0, e1, e2, e3⟩ := (kept_app SA.2.2.1 g7 SA.2.1 (by decide)).two)
        | fail)
      all_goals have ⟨t0, t1, t2, t3⟩ := S7.cells
      all_goals have ⟨r0, r1, r2, r3⟩ := S7.1.two
      all_goals go_wp2_with fail
      all_goals exact bodyPost_ret (v := .agg #[.int .i64 N, .slice A7 (m + 1) c7]) (by simp [results, Try.results165, go_sem, r0, r1]) rfl ⟨N, A7, m + 1, c7, _, rfl, S7.2.2.2.2.2.1, by omega, trivial, own_set2 S7.2.2.1 (own_bx_ne S7.2.2.1 S7.1 (by decide)), cur2 S7.2.2.2.1 hg, dr2 S7.2.2.2.2.1 (Nat.le_refl _)⟩
    · by_cases z2 : z = 2
      · subst z2
        obtain ⟨u0, u1, v0, v1⟩ := HS.out.cells
        have CD := Lib.hid (show Cur w4.drew g from HS.out.2.2.2.1)
        have hcap := ownsRow_cap HS.out.2.2.1
        have hwr : IntKind.i64.wrap ((m : Int) + 1) = (m : Int) + 1 := wrapk_small (by omega) (by omega)
        go_wp2_with fail
        go_region_law (first
          | (go_simp; go_at_call 62; (with_reducible refine (s_l1Below g _ _ CD.out (by omega)).mono ?_); rintro e w5 ⟨y5, rfl, ⟨hy5, _⟩, hc5, g5⟩; have ⟨hy0, hy1⟩ := hy5 (by omega); have ⟨j, hj⟩ : ∃ j : Nat, y5 = j := ⟨y5.toNat, by omega⟩; subst hj; have S5 := HS.out.draw hc5 (und_grownD g5); have ⟨p0, p1, p2, p3⟩ := S5.cells; have hjm : j ≤ m := (by omega); have hsl := sl_hP A m c j (by omega))
          | fail)
        all_goals have S7 := S5.cut hjm
        all_goals have ⟨t0, t1, t2, t3⟩ := S7.cells
        all_goals have ⟨r0, r1, r2, r3⟩ := S7.1.two
        all_goals go_wp2_with fail
        all_goals exact bodyPost_ret (v := .agg #[.int .i64 N, .slice A j c]) (by simp [results, Try.results165, go_sem, r0, r1]) rfl ⟨N, A, j, c, _, rfl, S7.2.2.2.2.2.1, by omega, trivial, own_set2 S7.2.2.1 (own_bx_ne S7.2.2.1 S7.1 (by decide)), cur2 S7.2.2.2.1 hg, dr2 S7.2.2.2.2.1 (Nat.le_refl _)⟩
      · have e0 : (z == 0) = false := by simpa using z0
        have e1 : (z == 1) = false := by simpa using z1
        have e2 : (z == 2) = false := by simpa using z2
        clear z0 z1 z2
        obtain ⟨u0, u1, v0, v1⟩ := HS.out.cells
        obtain ⟨r0, r1, r2, r3⟩ := HS.out.1.two
        go_wp2_with fail
        exact bodyPost_ret (v := .agg #[.int .i64 N, .slice A m c]) (by simp [results, Try.results165, go_sem, r0, r1]) rfl ⟨N, A, m, c, ps, rfl, HS.out.2.2.2.2.2.1, by omega, trivial, own_set2 HS.out.2.2.1 (own_bx_ne HS.out.2.2.1 HS.out.1 (by decide)), cur2 HS.out.2.2.2.1 hg, dr2 HS.out.2.2.2.2.1 (Nat.le_refl _)⟩

end Go.Proofs.Ytibhikngiceeeaa
