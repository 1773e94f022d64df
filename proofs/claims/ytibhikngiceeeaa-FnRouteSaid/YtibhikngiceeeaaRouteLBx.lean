/- Contracts of RespectsGraph (impl and spec). At most 2^40 gates and edges. Plain: the distance of a graph is symmetric and meets the triangle inequality; what a shortest way consists of. Nothing is asked. Plain: routed gates do from the first layout to the last what the gates do, and respect the graph. No program in sight; nothing is asked. Contracts of PermuteIndex, PermutationMatrix (spec) for permutations; of MulMatrix where a side is empty. Nothing else is asked. Contracts of DecomposeGate and DecomposeGates (spec): new gates, at most 15 for each. At most 2^20 gates. Contracts of the drawing of layouts' arguments: l37Args, DrawLayoutCost, DrawRouteGates, DrawChooseLayout. The code has at most 2^20 bytes. Contracts of RouteGates (impl and spec). At most 2^40 edges, 2^20 gates and numbers. -/
import Derived.Test.YtibhikngiceeeaaOkGate
import Derived.Test.YtibhikngiceeeaaHasEdge
import Derived.Test.YtibhikngiceeeaaGraphT
import Derived.Test.YtibhikngiceeeaaConn
import Derived.Test.YtibhikngiceeeaaPathP
import Derived.Test.YtibhikngiceeeaaDomP
import Derived.Test.YtibhikngiceeeaaDrawNBx
import Derived.Test.YtibhikngiceeeaaMatM
import Derived.Test.YtibhikngiceeeaaGateS
import Derived.Test.YtibhikngiceeeaaBase
import Derived.StillTailTactics
import Derived.Deep.DeepCutAuto
import Derived.RegionTactic
namespace Go.Proofs.Ytibhikngiceeeaa
open Go.RowKit

def badR (ps : List (Int × Int)) (N : Int) (g : Gt) : Bool := !okG g.k g.a g.b g.c N || (arity g.k == 3 || (arity g.k == 2 && !coup ps g.a g.b))
def resp (ps : List (Int × Int)) (N : Int) (gs : List Gt) : Bool := gs.all fun g => !badR ps N g
theorem resp_step {ps : List (Int × Int)} {N : Int} {gs r : List Gt} {k : Nat} {g : Gt} (hd : gs.drop k = g :: r) : resp ps N (gs.drop k) = (!badR ps N g && resp ps N r) := by rw [hd]; rfl

set_option maxRecDepth 100000 in
set_option maxHeartbeats 3200000 in
theorem i_RespectsGraph (A : Option Addr) (n cap : Nat) (gs : List Gt) (N : Int) (B : Option Addr) (m d : Nat) (ps : List (Int × Int)) (w : World) (h : RdG w A n gs) (hn : n ≤ 1099511627776) (hp : RdP w B m ps) (hm : m ≤ 1099511627776) :
    Calls Try.prog 37 #[.slice A n cap, .agg #[.int .i64 N, .slice B m d]] w fun e w' => e = .returned (.bool (resp ps N gs)) ∧ Below w.heap.size w w' := by
  have H := Lib.hid h
  have HP := Lib.hid hp
  have hlen := h.1
  clear h hp
  obtain ⟨R, hR⟩ : ∃ R, resp ps N gs = R := ⟨_, rfl⟩
  rw [hR]
  have HR := Lib.hid hR
  clear hR
  go_enter Try.func37, Try.ntmps37
  go_wp2_with fail
  go_loopg [9] n (fun q i wr => ∃ (k : Nat), k + q = n ∧ i = .int .i64 k ∧ resp ps N (gs.drop k) = R ∧ Bx wr w.heap.size 61 #[.int .i64 N, .slice B m d] ∧ Below w.heap.size w wr)
  case atStart => exact ⟨0, by omega, rfl, by simpa using HR.out, Bx.new w _ _, (Below.refl _ _).alloc (Nat.le_refl _) _⟩
  case round =>
    obtain ⟨k, hk, rfl, hx, hg, hb⟩ := hrel
    have HX := Lib.hid hx
    have HG := Lib.hid hg
    have hs0 := hb.size
    clear hx hg
    obtain ⟨p0, p1, _, _⟩ := HG.out.two
    have hsl : w.heap.size < wr.heap.size := HG.out.lt
    by_cases hlt : k < n
    · obtain ⟨bb, off, ⟨ky, ga, gb, gc⟩, hA, hB, hd, c0, c1, c2, c3⟩ := (H.out.below hb).at_ hlt
      subst hA
      dsimp only at c0 c1 c2 c3
      have HS := Lib.hid (resp_step (ps := ps) (N := N) hd)
      clear hd
      have XE := Lib.hid (Bx.new wr 55 #[.int .i64 ky, .int .i64 ga, .int .i64 gb, .int .i64 gc])
      have XG := Lib.hid (HG.out.alloc (.cells #[.int .i64 ky, .int .i64 ga, .int .i64 gb, .int .i64 gc] 55))
      have bA := hb.alloc hs0 (.cells #[.int .i64 ky, .int .i64 ga, .int .i64 gb, .int .i64 gc] 55)
      cases h1 : okG ky ga gb gc N
      · have H1 := Lib.hid h1
        clear h1
        go_wp2_with fail
        refine (i_IsValidGate _ _ _ _ _ _).mono ?_
        rintro e w1 ⟨rfl, b1⟩
        rw [H1.out]
        go_wp2_with fail
        go_ret
        refine ⟨ret_bool ?_, below_trans bA b1⟩
        rw [← HX.out, HS.out, badR, H1.out]; rfl
      · have H1 := Lib.hid h1
        clear h1
        go_wp2_with fail
        refine (i_IsValidGate _ _ _ _ _ _).mono ?_
        rintro e w1 ⟨rfl, b1⟩
        rw [H1.out]
        clear c0 c1 c2 c3 p0 p1
        have b01 := below_trans bA b1
        have HP1 := Lib.hid (HP.out.below b01)
        have X1 := Lib.hid (XG.out.below b1)
        obtain ⟨q0, q1, q2, q3, _⟩ := (XE.out.below b1).four
        obtain ⟨p0, p1, _, _⟩ := X1.out.two
        clear b1 bA XE XG
        generalize wr.heap.size = ge at q0 q1 q2 q3 ⊢
        cases h3 : (arity ky == 3)
        · have H3 := Lib.hid h3
          go_wp2_with fail
          refine (i_Arity _ _).mono ?_
          rintro e w' ⟨rfl, rfl⟩
          cases h2 : (arity ky == 2)
          · have H2 := Lib.hid h2
            go_wp2_with fail
            refine (i_Arity _ _).mono ?_
            rintro e w' ⟨rfl, rfl⟩
            go_wp2_with fail
            go_roundg (gk - 1)
            case measure => omega
            case rel => exact ⟨k + 1, by omega, by go_num, by rw [← HX.out, HS.out, badR, H1.out, H3.out, H2.out]; rfl, X1.out, b01⟩
          · have H2 := Lib.hid h2
            go_wp2_with fail
            refine (i_Arity _ _).mono ?_
            rintro e w' ⟨rfl, rfl⟩
            go_wp2_with fail
            refine (i_AreCoupled _ _ _ _ _ _ _ _ HP1.out hm).mono ?_
            rintro e w2 ⟨rfl, b2⟩
            have X2 := Lib.hid (X1.out.below b2)
            have b02 := below_trans b01 b2
            cases h4 : coup ps ga gb
            · have H4 := Lib.hid h4
              go_wp2_with fail
              go_ret
              refine ⟨ret_bool ?_, b02⟩
              rw [← HX.out, HS.out, badR, H1.out, H3.out, H2.out, H4.out]; rfl
            · have H4 := Lib.hid h4
              go_wp2_with fail
              go_roundg (gk - 1)
              case measure => omega
              case rel => exact ⟨k + 1, by omega, by go_num, by rw [← HX.out, HS.out, badR, H1.out, H3.out, H2.out, H4.out]; rfl, X2.out, b02⟩
        · have H3 := Lib.hid h3
          go_wp2_with fail
          refine (i_Arity _ _).mono ?_
          rintro e w' ⟨rfl, rfl⟩
          go_wp2_with fail
          go_ret
          refine ⟨ret_bool ?_, b01⟩
          rw [← HX.out, HS.out, badR, H1.out, H3.out]; rfl
    · go_wp2_with fail
      go_ret
      refine ⟨ret_bool ?_, hb⟩
      rw [← HX.out, List.drop_eq_nil_of_le (by omega)]; rfl

end Go.Proofs.Ytibhikngiceeeaa
namespace Go.Proofs.Ytibhikngiceeeaa

theorem gd_T {ps : List (Int × Int)} {N a b : Int} (h : (1 ≤ N ∧ N ≤ 4) ∧ (0 ≤ a ∧ a < N) ∧ 0 ≤ b ∧ b < N) : triB (mat ps) N.toNat a b = true ∧ gd ps N a b = gdI (mat ps) N a b ∧ gd ps N b a = gdI (mat ps) N b a ∧ ((N.toNat : Nat) : Int) = N :=
  ⟨tri_ok _ _ _ _ _ _ _ _ _ _ N.toNat a b (by omega) (by omega) (by omega) (by omega) (by omega) (by omega), gd_in h.1.1 h.1.2 h.2.1.1 (by omega) h.2.2.1 (by omega), gd_in h.1.1 h.1.2 h.2.2.1 (by omega) h.2.1.1 (by omega), by omega⟩
theorem gd_symm (ps : List (Int × Int)) (N a b : Int) : gd ps N b a = gd ps N a b := by
  have key : ∀ x y, 0 ≤ gd ps N x y → gd ps N y x = gd ps N x y := by
    intro x y h
    obtain ⟨h1, h2, h3, h4⟩ := gd_T (ps := ps) (gd_rng h)
    unfold triB at h1
    rw [h4] at h1
    simp only [Bool.and_eq_true, beq_iff_eq] at h1
    rw [h2, h3, ← h1.1.1]
  rcases gd_sign ps N a b with h | h
  · rcases gd_sign ps N b a with h' | h'
    · rw [h, h']
    · exact (key b a h').symm
  · exact key a b h
theorem gd_tri (ps : List (Int × Int)) (N a b c : Int) (hx : 0 ≤ gd ps N a b) (hy : 0 ≤ gd ps N b c) : 0 ≤ gd ps N a c ∧ gd ps N a c ≤ gd ps N a b + gd ps N b c := by
  have r1 := gd_rng hx
  have r2 := gd_rng hy
  obtain ⟨h1, h2, h3, h4⟩ := gd_T (ps := ps) r1
  unfold triB at h1
  rw [h4] at h1
  simp only [Bool.and_eq_true, List.all_eq_true, List.mem_range] at h1
  have h5 := h1.2 c.toNat (by omega)
  have h6 : ((c.toNat : Nat) : Int) = c := by omega
  rw [h6, ← h2, ← gd_in (ps := ps) r2.1.1 r2.1.2 r2.2.1.1 (by omega) r2.2.2.1 (by omega), ← gd_in (ps := ps) r2.1.1 r2.1.2 r1.2.1.1 (by omega) r2.2.2.1 (by omega)] at h5
  simp only [Bool.or_eq_true, Bool.and_eq_true, decide_eq_true_eq] at h5
  omega
theorem gd_zero {ps : List (Int × Int)} {N a b : Int} (h : gd ps N a b = 0) : a = b := by
  obtain ⟨h1, h2, h3, h4⟩ := gd_T (ps := ps) (gd_rng (ps := ps) (N := N) (a := a) (b := b) (by omega))
  unfold triB at h1
  rw [h4] at h1
  simp only [Bool.and_eq_true] at h1
  have h5 := h1.1.2
  rw [← h2, h] at h5
  simpa using h5
theorem pS_law {ps : List (Int × Int)} {N b : Int} : ∀ (d : Nat) (a : Int), gd ps N a b = d → (a :: pS ps N b d a).getD d 0 = b ∧ ∀ i, i < d → ∃ x y, (a :: pS ps N b d a)[i]? = some x ∧ (a :: pS ps N b d a)[i + 1]? = some y ∧ coup ps x y = true ∧ gd ps N y b = (d : Int) - (i + 1 : Nat)
  | 0, a, h => ⟨by rw [List.getD_cons_zero]; exact gd_zero h, fun i hi => absurd hi (by omega)⟩
  | d + 1, a, h => by
    have hr := gd_rng (ps := ps) (N := N) (a := a) (b := b) (by omega)
    obtain ⟨n, rfl⟩ : ∃ n : Nat, N = n := ⟨N.toNat, by omega⟩
    obtain ⟨a, rfl⟩ : ∃ k : Nat, a = k := ⟨a.toNat, by omega⟩
    obtain ⟨b, rfl⟩ : ∃ k : Nat, b = k := ⟨b.toNat, by omega⟩
    obtain ⟨x, hx1, hx2, hx3, hx4⟩ := nxt_ok (by omega) (by omega) (by omega) (by omega) h
    rw [pS_step hx1]
    obtain ⟨i1, i2⟩ := pS_law d (x : Int) hx4
    refine ⟨by rw [List.getD_cons_succ]; exact i1, ?_⟩
    intro i hi
    rcases i with _ | i
    · exact ⟨(a : Int), (x : Int), rfl, rfl, hx3, by rw [hx4]; omega⟩
    · obtain ⟨u, v, j1, j2, j3, j4⟩ := i2 i (by omega)
      refine ⟨u, v, j1, j2, j3, by rw [j4]; omega⟩
theorem spath_law {ps : List (Int × Int)} {N a b : Int} {d : Nat} (h : gd ps N a b = d) : (spath ps N a b).length = d + 1 ∧ (spath ps N a b)[0]? = some a ∧ (spath ps N a b)[d]? = some b ∧ ∀ i, i < d → ∃ x y, (spath ps N a b)[i]? = some x ∧ (spath ps N a b)[i + 1]? = some y ∧ coup ps x y = true ∧ gd ps N y b = (d : Int) - (i + 1 : Nat) := by
  have e : spath ps N a b = a :: pS ps N b d a := by unfold spath; rw [if_neg (by omega), h, Int.toNat_natCast]
  obtain ⟨i1, i2⟩ := pS_law d a h
  have hl : (a :: pS ps N b d a).length = d + 1 := by rw [List.length_cons, spath_len]
  rw [e]
  refine ⟨hl, rfl, ?_, i2⟩
  rw [List.getD_eq_getElem?_getD, List.getElem?_eq_getElem (by omega), Option.getD_some] at i1
  rw [List.getElem?_eq_getElem (by omega), i1]
end Go.Proofs.Ytibhikngiceeeaa
namespace Go.Proofs.Ytibhikngiceeeaa
open Go.RowKit
set_option linter.unusedVariables false

/-- Where a layout sends a basis state. -/
def idxP : List Int → Nat → Nat
  | [], _ => 0
  | x :: r, i => (i % 2) * 2 ^ x.toNat + idxP r (i / 2)
def preF (f : Nat → Nat) (N s : Nat) : Nat := ((List.range N).find? fun i => f i == s).getD 0
def permV (f : Nat → Nat) (N : Nat) (V : List Zw) : List Zw := (List.range N).map fun s => V.getD (preF f N s) Zw.zero
def bijB (f : Nat → Nat) (N : Nat) : Bool := (List.range N).all fun t => decide (f t < N) && (decide (preF f N (f t) = t) && (decide (preF f N t < N) && decide (f (preF f N t) = t)))
def Bij (f : Nat → Nat) (N : Nat) : Prop := ∀ t, t < N → f t < N ∧ preF f N (f t) = t ∧ preF f N t < N ∧ f (preF f N t) = t
theorem bijB_bij {f : Nat → Nat} {N : Nat} (h : bijB f N = true) : Bij f N := by
  intro t ht
  have := List.all_eq_true.1 h t (List.mem_range.2 ht)
  simp only [Bool.and_eq_true, decide_eq_true_eq] at this
  exact ⟨this.1, this.2.1, this.2.2.1, this.2.2.2⟩
def listsN (n : Nat) : Nat → List (List Int)
  | 0 => [[]]
  | m + 1 => (listsN n m).flatMap fun r => (nsN n).map fun x => x :: r
def permsN (n : Nat) : List (List Int) := (listsN n n).filter isPerm
theorem lists_mem {n : Nat} : ∀ (m : Nat) (xs : List Int), xs.length = m → (∀ x ∈ xs, 0 ≤ x ∧ x ≤ (n : Int) - 1) → xs ∈ listsN n m
  | 0, xs, h, _ => by rw [List.eq_nil_of_length_eq_zero h]; exact List.mem_singleton.2 rfl
  | m + 1, [], h, _ => by simp at h
  | m + 1, x :: r, h, hb => List.mem_flatMap.2 ⟨r, lists_mem m r (by simpa using h) (fun y hy => hb y (by simp [hy])), List.mem_map.2 ⟨x, nsN_mem (hb x (by simp)), rfl⟩⟩
theorem perm_mem {n : Nat} {z : List Int} (h : isPerm z = true) (hl : z.length = n) : z ∈ permsN n := by
  refine List.mem_filter.2 ⟨lists_mem n z hl fun x hx => ?_, h⟩
  have := ((isPerm_iff z).1 h).1 x hx
  rw [hl] at this
  exact this
/-- A basic gate at the places that a layout gives. -/
def gmap (z : List Int) (g : Gt) : Gt := if (arity g.k == 1) = true then ⟨g.k, zAt z g.a, 0, 0⟩ else ⟨9, zAt z g.a, zAt z g.b, 0⟩
def basicN (n : Nat) : List Gt := (gatesN n).filter fun g => basicK g.k
def chkRz (n : Nat) (z : List Int) : Bool := bijB (idxP z) (2 ^ n) && (basicN n).all fun g => (okN n (gmap z g) && decide (hc (gmap z g) = hc g)) && (List.range (2 ^ n)).all fun i => decide (goes (gmap z g) (idxP z i) = (goes g i).map fun t => (idxP z t.1, t.2))
def chkSz (n : Nat) (z : List Int) : Bool := (nsN n).all fun a => (nsN n).all fun b => (a == b) || (okN n ⟨11, a, b, 0⟩ && (List.range (2 ^ n)).all fun i => decide (goes ⟨11, a, b, 0⟩ (idxP z i) = [(idxP (swapL z a b) i, phD 0)]))
def chkP (n : Nat) : Bool := (permsN n).all fun z => chkRz n z && chkSz n z
theorem chkP1 : chkP 1 = true := by decide +kernel
theorem chkP2 : chkP 2 = true := by decide +kernel
theorem chkP3 : chkP 3 = true := by decide +kernel
theorem chkP4 : chkP 4 = true := by decide +kernel
theorem chkP_all {n : Nat} (h : 1 ≤ n ∧ n ≤ 4) : chkP n = true := by
  obtain rfl | rfl | rfl | rfl : n = 1 ∨ n = 2 ∨ n = 3 ∨ n = 4 := by omega
  · exact chkP1
  · exact chkP2
  · exact chkP3
  · exact chkP4
theorem perm_n {n : Nat} {z : List Int} (h : isPerm z = true) (hl : z.length = n) : 1 ≤ n ∧ n ≤ 4 := by
  have := isPerm_len h
  omega
theorem perm_bij {n : Nat} {z : List Int} (h : isPerm z = true) (hl : z.length = n) : Bij (idxP z) (2 ^ n) := by
  have h1 := List.all_eq_true.1 (chkP_all (perm_n h hl)) z (perm_mem h hl)
  simp only [chkRz, Bool.and_eq_true] at h1
  exact bijB_bij h1.1.1
theorem gmap_at {n : Nat} {z : List Int} {g : Gt} (h : isPerm z = true) (hl : z.length = n) (hg : okN n g = true) (hb : basicK g.k = true) : okN n (gmap z g) = true ∧ hc (gmap z g) = hc g ∧ ∀ i, i < 2 ^ n → goes (gmap z g) (idxP z i) = (goes g i).map fun t => (idxP z t.1, t.2) := by
  have h1 := List.all_eq_true.1 (chkP_all (perm_n h hl)) z (perm_mem h hl)
  simp only [chkRz, Bool.and_eq_true] at h1
  have h2 := List.all_eq_true.1 h1.1.2 g (List.mem_filter.2 ⟨okN_mem hg, hb⟩)
  simp only [Bool.and_eq_true, decide_eq_true_eq, List.all_eq_true] at h2
  exact ⟨h2.1.1, h2.1.2, fun i hi => h2.2 i (List.mem_range.2 hi)⟩
theorem swap_at {n : Nat} {z : List Int} {a b : Int} (h : isPerm z = true) (hl : z.length = n) (ha : 0 ≤ a ∧ a ≤ (n : Int) - 1) (hb : 0 ≤ b ∧ b ≤ (n : Int) - 1) (hab : a ≠ b) : okN n ⟨11, a, b, 0⟩ = true ∧ ∀ i, i < 2 ^ n → goes ⟨11, a, b, 0⟩ (idxP z i) = [(idxP (swapL z a b) i, phD 0)] := by
  have h1 := List.all_eq_true.1 (chkP_all (perm_n h hl)) z (perm_mem h hl)
  simp only [chkSz, Bool.and_eq_true] at h1
  have h2 := List.all_eq_true.1 (List.all_eq_true.1 h1.2 a (nsN_mem ha)) b (nsN_mem hb)
  rw [show (a == b) = false by simpa using hab, Bool.false_or] at h2
  simp only [Bool.and_eq_true, decide_eq_true_eq, List.all_eq_true] at h2
  exact ⟨h2.1, fun i hi => h2.2 i (List.mem_range.2 hi)⟩

theorem permV_len (f : Nat → Nat) (N : Nat) (V : List Zw) : (permV f N V).length = N := by unfold permV; rw [List.length_map, List.length_range]
theorem permV_get {f : Nat → Nat} {N s : Nat} {V : List Zw} (hs : s < N) : (permV f N V).getD s Zw.zero = V.getD (preF f N s) Zw.zero := by
  unfold permV
  rw [List.getD_eq_getElem?_getD, List.getElem?_map, List.getElem?_range hs]
  rfl
theorem permV_lin (f : Nat → Nat) (N : Nat) : LinN N (permV f N) := by
  refine ⟨fun V W h1 h2 => ?_, fun c V h1 => ?_, fun V _ => permV_len f N V⟩
  · refine ext_getD (by rw [permV_len, addV_lenN (permV_len f N V) (permV_len f N W)]) fun s hs => ?_
    rw [permV_len] at hs
    rw [permV_get hs, addV_getD (by rw [h1, h2]), addV_getD (by rw [permV_len, permV_len]), permV_get hs, permV_get hs]
  · refine ext_getD (by rw [permV_len, scl_lenN, permV_len]) fun s hs => ?_
    rw [permV_len] at hs
    rw [permV_get hs, scl_getD, scl_getD, permV_get hs]
theorem permV_set {f : Nat → Nat} {N t : Nat} {V : List Zw} {v : Zw} (hb : Bij f N) (ht : t < N) (hl : V.length = N) : permV f N (V.set t v) = (permV f N V).set (f t) v := by
  obtain ⟨b1, b2, _, _⟩ := hb t ht
  refine ext_getD (by rw [permV_len, List.length_set, permV_len]) fun s hs => ?_
  rw [permV_len] at hs
  rw [permV_get hs, getD_set (by rw [hl]; exact ht), getD_set (by rw [permV_len]; exact b1), permV_get hs]
  by_cases h : s = f t
  · rw [if_pos h, if_pos (by rw [h]; exact b2)]
  · rw [if_neg h, if_neg]
    intro e
    obtain ⟨_, _, _, b4⟩ := hb s hs
    rw [e] at b4
    exact h b4.symm
theorem permV_at {f : Nat → Nat} {N t : Nat} {V : List Zw} (hb : Bij f N) (ht : t < N) : (permV f N V).getD (f t) Zw.zero = V.getD t Zw.zero := by
  obtain ⟨b1, b2, _, _⟩ := hb t ht
  rw [permV_get b1, b2]
theorem permV_rep (f : Nat → Nat) (N : Nat) : permV f N (List.replicate N Zw.zero) = List.replicate N Zw.zero := by
  refine ext_getD (by rw [permV_len, List.length_replicate]) fun s hs => ?_
  rw [permV_len] at hs
  rw [permV_get hs, rep_getD, rep_getD]
theorem permV_eN {f : Nat → Nat} {N i : Nat} (hb : Bij f N) (hi : i < N) : permV f N (eN N i) = eN N (f i) := by
  unfold eN
  rw [permV_set hb hi (by rw [List.length_replicate]), permV_rep]
theorem permV_puts {f : Nat → Nat} {N : Nat} (hb : Bij f N) (z : Zw) : ∀ (l : List (Nat × Dw)) (O : List Zw), (∀ t ∈ l, t.1 < N) → O.length = N → permV f N (putsU z l O) = putsU z (l.map fun t => (f t.1, t.2)) (permV f N O)
  | [], O, _, _ => rfl
  | t :: r, O, h, hl => by
    have ht := h t (by simp)
    rw [List.map_cons, putsU, putsU, permV_puts hb z r _ (fun x hx => h x (by simp [hx])) (by unfold putU; rw [List.length_set, hl])]
    congr 1
    unfold putU
    rw [permV_set hb ht hl, permV_at hb ht]
theorem act_eN {N : Nat} {g : Gt} {i : Nat} (hi : i < N) : act g (eN N i) = putsU ⟨1, 0, 0, 0⟩ (goes g i) (List.replicate N Zw.zero) := by
  have e : eN N i = List.replicate i Zw.zero ++ ⟨1, 0, 0, 0⟩ :: List.replicate (N - i - 1) Zw.zero := by
    refine List.ext_getElem? fun s => ?_
    unfold eN
    rw [List.getElem?_set, List.length_replicate, List.getElem?_append, List.length_replicate, List.getElem?_replicate, List.getElem?_replicate, List.getElem?_cons, List.getElem?_replicate]
    by_cases h1 : i = s
    · subst h1
      rw [if_pos rfl, if_pos hi, if_neg (by omega), if_pos (by omega)]
    · rw [if_neg h1]
      by_cases h2 : s < i
      · rw [if_pos (by omega), if_pos h2, if_pos h2]
      · by_cases h3 : s < N
        · rw [if_pos h3, if_neg h2, if_neg (show ¬ s - i = 0 by omega), if_pos (by omega)]
        · rw [if_neg h3, if_neg h2, if_neg (show ¬ s - i = 0 by omega), if_neg (by omega)]
  unfold act
  rw [eN_len, e, actL_app, actL_zero, List.length_replicate, Nat.zero_add, actL, actL_zero]
theorem act_perm {n : Nat} {f : Nat → Nat} {g g' : Gt} (hg : okN n g = true) (hg' : okN n g' = true) (hb : Bij f (2 ^ n)) (h : ∀ i, i < 2 ^ n → goes g' (f i) = (goes g i).map fun t => (f t.1, t.2)) {V : List Zw} (hV : V.length = 2 ^ n) :
    act g' (permV f (2 ^ n) V) = permV f (2 ^ n) (act g V) := by
  refine linN_ext ((permV_lin f (2 ^ n)).comp (act_linN hg')) ((act_linN hg).comp (permV_lin f (2 ^ n))) (fun i hi => ?_) hV
  have hgood := (chk_at hg).2 i hi
  rw [permV_eN hb hi, act_eN (hb i hi).1, act_eN hi, h i hi, permV_puts hb _ _ _ (fun t ht => (hgood t ht).2.2) (by rw [List.length_replicate]), permV_rep]
theorem act_swapP {n : Nat} {f f2 : Nat → Nat} {g' : Gt} (hg' : okN n g' = true) (hb : Bij f (2 ^ n)) (hb2 : Bij f2 (2 ^ n)) (h : ∀ i, i < 2 ^ n → goes g' (f i) = [(f2 i, phD 0)]) {V : List Zw} (hV : V.length = 2 ^ n) :
    act g' (permV f (2 ^ n) V) = permV f2 (2 ^ n) V := by
  refine linN_ext ((permV_lin f (2 ^ n)).comp (act_linN hg')) (permV_lin f2 (2 ^ n)) (fun i hi => ?_) hV
  rw [permV_eN hb hi, permV_eN hb2 hi, act_unit (hb i hi).1 (hb2 i hi).1 (h i hi), scl_0]
theorem lay_conn {ps : List (Int × Int)} {N : Int} {z : List Int} (h : isLay ps N z = true) {a b : Int} (ha : 0 ≤ a ∧ a < N) (hb : 0 ≤ b ∧ b < N) : 0 ≤ gd ps N a b := by
  obtain ⟨_, _, h1, h4⟩ := isLay_len h
  unfold isLay valid at h
  simp only [Bool.and_eq_true] at h
  have hc := h.1.2
  unfold con at hc
  simp only [Bool.and_eq_true, decide_eq_true_eq] at hc
  have ga := hc.2 a.toNat (by omega) (by omega)
  have gb := hc.2 b.toNat (by omega) (by omega)
  rw [show ((a.toNat : Nat) : Int) = a by omega] at ga
  rw [show ((b.toNat : Nat) : Int) = b by omega] at gb
  rw [← gd_symm] at ga
  exact (gd_tri ps N a 0 b ga gb).1
theorem near_coup {ps : List (Int × Int)} {N a b : Int} (h0 : 0 ≤ gd ps N a b) (h1 : gd ps N a b ≤ 1) (hab : a ≠ b) : coup ps a b = true := by
  have hne : gd ps N a b ≠ 0 := fun e => hab (gd_zero e)
  have e : gd ps N a b = ((1 : Nat) : Int) := by omega
  obtain ⟨s1, s2, s3, s4⟩ := spath_law e
  obtain ⟨x, y, t1, t2, t3, _⟩ := s4 0 (by omega)
  rw [s2] at t1
  injection t1 with t1
  rw [s3] at t2
  injection t2 with t2
  rw [t1, t2]
  exact t3
theorem okG_two {k a b c n : Int} (h : okG k a b c n = true) (hk : arity k = 2) : a ≠ b ∧ c = 0 := by
  unfold okG at h
  simp only [Bool.and_eq_true, decide_eq_true_eq] at h
  obtain ⟨h1, h2, h3⟩ := h
  rw [hk] at h3
  simp [okQ, badQ, inB, hasI] at h3
  exact ⟨by omega, by omega⟩
theorem okN_ok {n : Nat} {g : Gt} (h : okN n g = true) : okG g.k g.a g.b g.c (n : Int) = true := h
theorem zAt_inj {z : List Int} {p q : Int} (h : isPerm z = true) (hp : 0 ≤ p ∧ p.toNat < z.length) (hq : 0 ≤ q ∧ q.toNat < z.length) (e : zAt z p = zAt z q) : p = q := by
  obtain ⟨_, hn, _, _⟩ := (isPerm_iff z).1 h
  unfold zAt at e
  rw [List.getD_eq_getElem?_getD, List.getD_eq_getElem?_getD, List.getElem?_eq_getElem hp.2, List.getElem?_eq_getElem hq.2] at e
  simp only [Option.getD_some] at e
  have := (List.getElem_inj hn).1 e
  omega
/-- What a row of routed gates keeps. -/
def Keeps (ps : List (Int × Int)) (n : Nat) (out : List Gt) (z z' : List Int) (h : Nat) (f : List Zw → List Zw) : Prop :=
  (∀ x ∈ out, okN n x = true) ∧ resp ps n out = true ∧ hcs out = h ∧ ∀ V, V.length = 2 ^ n → actG out (permV (idxP z) (2 ^ n) V) = permV (idxP z') (2 ^ n) (f V)
theorem resp_app (ps : List (Int × Int)) (N : Int) (a b : List Gt) : resp ps N (a ++ b) = (resp ps N a && resp ps N b) := by unfold resp; rw [List.all_append]
theorem resp_one {ps : List (Int × Int)} {n : Nat} {g : Gt} (h : okN n g = true) (h3 : arity g.k ≠ 3) (h2 : arity g.k = 2 → coup ps g.a g.b = true) : resp ps n [g] = true := by
  unfold resp badR
  rw [List.all_cons, List.all_nil, Bool.and_true, okN_ok h, show (arity g.k == 3) = false by simpa using h3]
  cases e : (arity g.k == 2)
  · rfl
  · rw [h2 (by simpa using e)]; rfl
theorem Keeps.one {ps : List (Int × Int)} {n : Nat} {z : List Int} {g : Gt} (h : isPerm z = true) (hl : z.length = n) (hg : okN n g = true) (hb : basicK g.k = true) (hr : resp ps n [gmap z g] = true) : Keeps ps n [gmap z g] z z (hc g) (act g) := by
  obtain ⟨g1, g2, g3⟩ := gmap_at h hl hg hb
  refine ⟨by simpa using g1, hr, ?_, fun V hV => act_perm hg g1 (perm_bij h hl) g3 hV⟩
  show hc (gmap z g) + 0 = hc g
  rw [g2]; rfl
theorem rt_keeps {ps : List (Int × Int)} {n : Nat} {qa qb : Int} (hg : okN n ⟨9, qa, qb, 0⟩ = true) (ha : 0 ≤ qa ∧ qa < n) (hb : 0 ≤ qb ∧ qb < n) (hab : qa ≠ qb) : ∀ (f : Nat) (z : List Int), isLay ps n z = true → gd ps n (zAt z qa) (zAt z qb) ≤ f + 1 →
    Keeps ps n (rtS ps n qa qb f z).1 z (rtS ps n qa qb f z).2 0 (act ⟨9, qa, qb, 0⟩)
  | f, z, h, hd => by
    obtain ⟨e1, e2, e3, e4⟩ := isLay_len h
    have hl : z.length = n := by omega
    have ra := zAt_rng h ha.1 ha.2
    have rb := zAt_rng h hb.1 hb.2
    by_cases hg1 : 1 < gd ps n (zAt z qa) (zAt z qb)
    · cases f with
      | zero => omega
      | succ f =>
        obtain ⟨rest, hs, w0, w1, hlay, hgd⟩ := step_ok h ha.1 ha.2 hb.1 hb.2 hg1
        rw [rt_far hg1]
        obtain ⟨x, hx⟩ : ∃ x, way1 ps n (zAt z qa) (zAt z qb) = x := ⟨_, rfl⟩
        obtain ⟨a, hA⟩ : ∃ a, zAt z qa = a := ⟨_, rfl⟩
        have hne : a ≠ x := by
          intro e
          rw [hx, hA, ← e] at hgd
          have hsw : swapL z a a = z := by
            unfold swapL
            rw [if_pos e2]
            have : sw a a = fun y => y := by
              funext y
              unfold sw
              by_cases hy : y = a
              · rw [if_pos hy, hy]
              · rw [if_neg hy, if_neg hy]
            rw [this, List.map_id']
          rw [hsw, hA] at hgd
          omega
        have hcp : coup ps a x = true := by
          obtain ⟨d, hd'⟩ : ∃ d : Nat, gd ps n (zAt z qa) (zAt z qb) = (d : Int) := ⟨(gd ps n (zAt z qa) (zAt z qb)).toNat, by omega⟩
          obtain ⟨_, _, _, s4⟩ := spath_law hd'
          obtain ⟨u, v, t1, t2, t3, _⟩ := s4 0 (by omega)
          rw [hs] at t1 t2
          simp only [List.getElem?_cons_zero, List.getElem?_cons_succ, Option.some.injEq, Nat.zero_add] at t1 t2
          rw [← t1, ← t2, hx, hA] at t3
          exact t3
        rw [hx] at w0 w1 hlay hgd ⊢
        rw [hA] at hlay hgd ra ⊢
        obtain ⟨k1, k2, k3, k4⟩ := rt_keeps hg ha hb hab f (swapL z a x) hlay (by rw [hgd]; rw [hA] at hd; omega)
        obtain ⟨s1, s2⟩ := swap_at e2 hl (by omega) (by omega : 0 ≤ x ∧ x ≤ (n : Int) - 1) hne
        have hp2 := isPerm_swap e2 (a := a) (b := x) (by omega) (by omega) w0 (by omega)
        refine ⟨fun y hy => ?_, ?_, ?_, fun V hV => ?_⟩
        · rcases List.mem_cons.1 hy with rfl | hy
          · exact s1
          · exact k1 y hy
        · rw [show ∀ (g : Gt) (r : List Gt), g :: r = [g] ++ r from fun _ _ => rfl, resp_app, k2, resp_one s1 (by show arity 11 ≠ 3; decide) (fun _ => hcp)]
          rfl
        · show hc _ + hcs _ = 0
          rw [k3]
          rfl
        · show actG _ (act _ _) = _
          rw [act_swapP s1 (perm_bij e2 hl) (perm_bij hp2.1 (by rw [hp2.2, hl])) s2 hV]
          exact k4 V hV
    · rw [rt_near (by omega)]
      have hk := Keeps.one (ps := ps) e2 hl hg (show basicK 9 = true by decide) (by
        refine resp_one (gmap_at e2 hl hg (by show basicK 9 = true; decide)).1 (by show arity 9 ≠ 3; decide) fun _ => ?_
        have eg : gmap z ⟨9, qa, qb, 0⟩ = ⟨9, zAt z qa, zAt z qb, 0⟩ := by
          unfold gmap
          rw [if_neg (by show ¬ (arity 9 == 1) = true; decide)]
        rw [eg]
        show coup ps (zAt z qa) (zAt z qb) = true
        refine near_coup (lay_conn h ra rb) (by omega) fun e => hab ?_
        exact zAt_inj e2 ⟨ha.1, by omega⟩ ⟨hb.1, by omega⟩ e)
      exact hk
theorem routeG_keeps {ps : List (Int × Int)} {n : Nat} {z : List Int} {g : Gt} (h : mayR ps n z g = true) : Keeps ps n (routeG ps n z g).1 z (routeG ps n z g).2 (hc g) (act g) ∧ isLay ps n (routeG ps n z g).2 = true := by
  obtain ⟨m1, m2, m3⟩ := mayR_parts h
  obtain ⟨e1, e2, e3, e4⟩ := isLay_len m1
  have hl : z.length = n := by omega
  have hg : okN n g = true := m3
  refine ⟨?_, routeG_lay m1⟩
  unfold routeG
  rw [if_pos h]
  cases h1 : (arity g.k == 1)
  · rw [if_neg (by simp)]
    have ha := mayR_a h
    have hb := mayR_b h h1
    have h9 := basic_kind m2 h1
    have hgd := gd_bd ps n (zAt z g.a) (zAt z g.b)
    have e : g = ⟨9, g.a, g.b, 0⟩ := by
      have hm := okN_mem hg
      have h0 : g.c = 0 := (okG_two m3 (by rw [h9, ar9])).2
      cases g
      simp only at h9 h0 ⊢
      rw [h9, h0]
    have hab : g.a ≠ g.b := (okG_two m3 (by rw [h9, ar9])).1
    have h0 : hc g = 0 := by unfold hc; rw [h9]; rfl
    rw [h0]
    have hk := rt_keeps (ps := ps) (qa := g.a) (qb := g.b) (by rw [← e]; exact hg) ha hb hab 3 z m1 (by omega)
    rw [← e] at hk
    exact hk
  · rw [if_pos rfl]
    have e : (⟨g.k, zAt z g.a, 0, 0⟩ : Gt) = gmap z g := by unfold gmap; rw [if_pos h1]
    rw [e]
    have ha1 : arity g.k = 1 := by simpa using h1
    have hkk : (gmap z g).k = g.k := by rw [← e]
    refine Keeps.one e2 hl hg m2 (resp_one (gmap_at e2 hl hg m2).1 (by rw [hkk, ha1]; decide) fun h2 => ?_)
    rw [hkk, ha1] at h2
    exact absurd h2 (by decide)
theorem rtsL_keeps {ps : List (Int × Int)} {n : Nat} : ∀ (gs : List Gt) (z : List Int) (acc out : List Gt) (z' : List Int), isLay ps n z = true → rtsL ps n gs z acc = (out, z', true) → ∃ more, out = acc ++ more ∧ Keeps ps n more z z' (hcs gs) (actG gs) ∧ isLay ps n z' = true ∧ ∀ g ∈ gs, okN n g = true
  | [], z, acc, out, z', hz, h => by
    rw [rtsL] at h
    injection h with h1 h2
    injection h2 with h2 _
    subst h1 h2
    exact ⟨[], by simp, ⟨by simp, rfl, rfl, fun V _ => rfl⟩, hz, by simp⟩
  | g :: r, z, acc, out, z', hz, h => by
    rw [rtsL] at h
    by_cases hm : mayR ps n z g = true
    · rw [if_pos hm] at h
      obtain ⟨⟨a1, a2, a3, a4⟩, hz2⟩ := routeG_keeps hm
      obtain ⟨more, m1, ⟨b1, b2, b3, b4⟩, m3, m4⟩ := rtsL_keeps r _ _ _ _ hz2 h
      have hg : okN n g = true := (mayR_parts hm).2.2
      refine ⟨(routeG ps n z g).1 ++ more, by rw [m1, List.append_assoc], ⟨fun x hx => ?_, by rw [resp_app, a2, b2]; rfl, by rw [hcs_app, a3, b3]; rfl, fun V hV => ?_⟩, m3, fun x hx => ?_⟩
      · rcases List.mem_append.1 hx with hx | hx
        · exact a1 x hx
        · exact b1 x hx
      · rw [actG_app, a4 V hV, b4 _ ((act_linN hg).2.2 V hV)]
        rfl
      · rcases List.mem_cons.1 hx with rfl | hx
        · exact hg
        · exact m4 x hx
    · rw [if_neg hm] at h
      injection h with _ h
      injection h with _ h
      cases h
/-- The whole of routing. -/
theorem route_law {ps : List (Int × Int)} {N : Int} {zs z' : List Int} {gs out : List Gt} (h : routeGs ps N zs gs = (out, z', true)) :
    ∃ n : Nat, N = n ∧ (1 ≤ n ∧ n ≤ 4) ∧ (isPerm zs = true ∧ zs.length = n) ∧ (isPerm z' = true ∧ z'.length = n) ∧ (∀ g ∈ gs, okN n g = true) ∧ Keeps ps n out zs z' (hcs gs) (actG gs) := by
  unfold routeGs at h
  by_cases hl : isLay ps N zs = true
  · rw [if_pos hl] at h
    obtain ⟨e1, e2, e3, e4⟩ := isLay_len hl
    obtain ⟨n, rfl⟩ : ∃ n : Nat, N = n := ⟨N.toNat, by omega⟩
    obtain ⟨more, m1, m2, m3, m4⟩ := rtsL_keeps gs zs [] out z' hl h
    rw [List.nil_append] at m1
    subst m1
    obtain ⟨f1, f2, _, _⟩ := isLay_len m3
    exact ⟨n, rfl, by omega, ⟨e2, by omega⟩, ⟨f2, by omega⟩, m4, m2⟩
  · rw [if_neg hl] at h
    injection h with _ h
    injection h with _ h
    cases h
end Go.Proofs.Ytibhikngiceeeaa
namespace Go.Proofs.Ytibhikngiceeeaa
open Go.RowKit
set_option linter.unusedVariables false

def piI (i : Nat) : Nat → List Int → Int → Int
  | _, [], acc => acc
  | k, y :: r, acc => piI i (k + 1) r (bits .or .i64 acc (wrap64 (bits .and .i64 ((i : Int) / 2 ^ k) 1 * 2 ^ y.toNat)))
def chkQ (n : Nat) : Bool := (permsN n).all fun z => (List.range (2 ^ n)).all fun i => decide (piI i 0 z 0 = ((idxP z i : Nat) : Int))
theorem chkQ1 : chkQ 1 = true := by decide +kernel
theorem chkQ2 : chkQ 2 = true := by decide +kernel
theorem chkQ3 : chkQ 3 = true := by decide +kernel
theorem chkQ4 : chkQ 4 = true := by decide +kernel
theorem piI_idx {n : Nat} {z : List Int} {i : Nat} (h : isPerm z = true) (hl : z.length = n) (hi : i < 2 ^ n) : piI i 0 z 0 = ((idxP z i : Nat) : Int) := by
  have hq : chkQ n = true := by
    have := perm_n h hl
    obtain rfl | rfl | rfl | rfl : n = 1 ∨ n = 2 ∨ n = 3 ∨ n = 4 := by omega
    · exact chkQ1
    · exact chkQ2
    · exact chkQ3
    · exact chkQ4
  exact of_decide_eq_true (List.all_eq_true.1 (List.all_eq_true.1 hq z (perm_mem h hl)) i (List.mem_range.2 hi))
theorem piI_step {i k : Nat} {z : List Int} {y x : Int} (hd : z.drop k = y :: z.drop (k + 1)) : piI i k (z.drop k) x = piI i (k + 1) (z.drop (k + 1)) (bits .or .i64 x (wrap64 (bits .and .i64 ((i : Int) / 2 ^ k) 1 * 2 ^ y.toNat))) := by rw [hd, piI]

/-- A slice of slices of numbers of the call's own, n rows. -/
def RetSDn (n : Nat) (l : List (List Dw)) (w : World) (e : Ending) (w' : World) : Prop :=
  ∃ A c, e = .returned (.slice A n c) ∧ OwnSS cellsD w' w.heap.size 79 83 5 (.slice A n c) l ∧ Below w.heap.size w w'
set_option maxRecDepth 100000 in
set_option maxHeartbeats 1600000 in
theorem s_PermIdx1 (A : Option Addr) (cap : Nat) (z : List Int) (i : Nat) (w : World) (h : RdI w A 1 z) (hp : isPerm z = true) (hnc : 1 ≤ cap) (hi : i < 2) :
    Calls Try.prog 102 #[.slice A 1 cap, .int .i64 i] w fun e w' => e = .returned (.int .i64 (idxP z i : Nat)) ∧ Below w.heap.size w w' := by
  have hz4 : ∀ x ∈ z, 0 ≤ x ∧ x < 4 := fun x hx => by have := ((isPerm_iff z).1 hp).1 x hx; have := h.1; omega
  have H := Lib.hid h
  have HP := Lib.hid hp
  have HZ := Lib.hid hz4
  have HI := Lib.hid (piI_idx hp h.1 (show i < 2 ^ 1 from hi))
  obtain ⟨R, hR⟩ : ∃ R, ((idxP z i : Nat) : Int) = R := ⟨_, rfl⟩
  have HR := Lib.hid hR
  rw [hR]
  have I1 := Lib.hid (show inB (i : Int) 0 1 = true from inB_t (by omega) (by omega))
  clear h hp hz4 hR
  go_enter Try.func102, Try.ntmps102
  go_wp2_with fail
  refine (s_IsPermutation _ _ _ _ _ H.out hnc (by omega)).mono ?_
  rintro e w1 ⟨rfl, b1⟩
  rw [HP.out]
  have B1 := Lib.hid b1
  clear b1
  go_wp2_with fail
  refine (s_in _ _ _ _).mono ?_
  rintro e w2 ⟨rfl, rfl⟩
  rw [I1.out]
  go_wp2_with fail
  go_loopg [5, 6] 1 (fun r a j wr => ∃ (k : Nat) (x : Int), k + r = 1 ∧ j = .int .i64 k ∧ a = .int .i64 x ∧ piI i k (z.drop k) x = R ∧ w1 = wr)
  case atStart => exact ⟨0, 0, by omega, rfl, rfl, by rw [List.drop_zero, HI.out, HR.out], rfl⟩
  case round =>
    obtain ⟨k, x, hk, rfl, rfl, hpx, rfl⟩ := hrel
    have HX := Lib.hid hpx
    clear hpx
    by_cases hlt : k < 1
    · obtain ⟨b, off, y, rfl, hB, hd, c0⟩ := (H.out.below B1.out).at_ hlt
      have hy := HZ.out y (List.mem_of_mem_drop (i := k) (by rw [hd]; simp))
      have HS := Lib.hid (piI_step (i := i) (x := x) hd)
      clear hd
      have hi0 : (0 : Int) ≤ (k : Int) := by omega
      have hi1 : (k : Int) < 1 := by omega
      go_wp2_with fail
      go_roundg (gk - 1)
      case measure => omega
      case rel => exact ⟨k + 1, _, by omega, by go_num, rfl, by rw [← HX.out, HS.out], rfl⟩
    · have e : x = R := by
        have := HX.out
        rwa [List.drop_eq_nil_of_le (by have := H.out.1; omega), piI] at this
      subst e
      go_wp2_with fail
      go_ret
      exact ⟨rfl, B1.out⟩
set_option maxRecDepth 100000 in
set_option maxHeartbeats 3200000 in
theorem s_PermMat1 (A : Option Addr) (cap : Nat) (z : List Int) (w : World) (h : RdI w A 1 z) (hp : isPerm z = true) (hnc : 1 ≤ cap) :
    Calls Try.prog 40 #[.slice A 1 cap] w (RetSDn 2 (flipL (colsU (fun i => basis 1 (idxP z i)) 2)) w) := by
  have H := Lib.hid h
  have HP := Lib.hid hp
  have HBJ := Lib.hid (perm_bij hp h.1)
  have HLB := Lib.hid (show ∀ i, (basis 1 i).length = 2 from fun i => by simp [basis])
  clear h hp
  go_enter Try.func40, Try.ntmps40
  go_wp2_with fail
  go_loopg [3, 4] 2 (fun r v j wr => ∃ (i : Nat) (A : Option Addr) (c : Nat), i + r = 2 ∧ j = .int .i64 i ∧ v = .slice A i c ∧ OwnSS cellsD wr w.heap.size 79 83 5 (.slice A i c) (colsU (fun i => basis 1 (idxP z i)) i) ∧ Below w.heap.size w wr)
  case atStart => exact ⟨0, _, 0, by omega, rfl, rfl, OwnSS.lit0 w (Nat.le_refl _) _ _ _ _, (Below.refl _ _).alloc (Nat.le_refl _) _⟩
  case round =>
    obtain ⟨i, A3, c3, hi, rfl, rfl, ho, hb⟩ := hrel
    have HB := Lib.hid hb
    have HO0 := Lib.hid ho
    have hs0 := hb.size
    clear hb ho
    go_wp2_with fail
    refine (s_IsPermutation _ _ _ _ _ (H.out.below HB.out) hnc (by omega)).mono ?_
    rintro e w1 ⟨rfl, b1⟩
    rw [HP.out]
    have HO := Lib.hid (HO0.out.below b1)
    have HB1 := Lib.hid (HB.out.trans (b1.mono hs0))
    have hs1 := HB1.out.size
    clear b1 HB HO0
    by_cases hlt : i < 2
    · obtain ⟨t, ht⟩ : ∃ t, idxP z i = t := ⟨_, rfl⟩
      have htQ : t < 2 := by rw [← ht]; exact (HBJ.out i hlt).1
      have HT := Lib.hid ht
      clear ht
      go_wp2_with fail
      refine (s_PermIdx1 _ _ z i _ (H.out.below HB1.out) HP.out hnc hlt).mono ?_
      rintro e w2 ⟨rfl, b2⟩
      rw [HT.out]
      go_wp2_with fail
      refine (s_Basis 1 t _ (by omega) (by omega) htQ).mono ?_
      rintro e w3 ⟨A4, c4, rfl, o4, b4⟩
      have B4 := Lib.hid (below_trans b2 b4)
      have HR := Lib.hid (ownsRow_base o4 b2.size)
      have hs4 := B4.out.size
      clear o4 b2 b4
      have HW := Lib.hid (HO.out.below B4.out)
      obtain ⟨vs, a1, a2, a3⟩ := HW.out
      rw [colsU_len] at a1
      have A1 := Lib.hid a1
      clear a1 a2 a3
      go_wp2_with (at_builtin; refine wpList_app rfl (.tmp 18) (.tmp 25) 27 rfl Try.underlying27 infoDOmegaS rfl (by decide) rfl (A1.out.alloc _) rfl (Rd.lit w3 79 #[.slice A4 2 c4] 1 1 rfl) (by simp [Value.oneCell']) (by omega) (by decide) (by simp <;> omega) ?_; intro A9 c9 w9 o9 g9)
      go_roundg (gk - 1)
      case measure => omega
      case rel =>
        refine ⟨i + 1, A9, c9, by omega, by go_num, rfl, ?_, below_grown ((HB1.out.trans (B4.out.mono hs1)).alloc (by omega) _) (by simp <;> omega) (A1.out.alloc _) (Nat.le_refl _) g9⟩
        rw [colsU_succ, HT.out]
        exact OwnSS.app1 (by decide) HO.out (Nat.le_refl _) hs1 (B4.out.alloc hs4 _) (HLB.out t) (HR.out.alloc _) (colsU_len _ i) (A1.out.alloc _) g9 o9
    · obtain rfl : i = 2 := by omega
      have HA := Lib.hid (colsU_all (U := fun i => basis 1 (idxP z i)) (k := 2) (n := 2) fun j _ => HLB.out _)
      have HFL := Lib.hid (show (flipL (colsU (fun i => basis 1 (idxP z i)) 2)).length = 2 by rw [flipL_len, colsU_len])
      go_wp2_with fail
      refine (s_l7Cols _ 2 _ (colsU (fun i => basis 1 (idxP z i)) 2) _ (HO.out.rd (colsU_len _ _)) (by omega) HA.out).mono ?_
      rintro e w6 ⟨A6, c6, rfl, o6, b6⟩
      rw [HFL.out] at o6 ⊢
      go_wp2_with fail
      go_ret
      exact ⟨_, _, rfl, o6.base_ hs1, HB1.out.trans (b6.mono hs1)⟩
set_option maxRecDepth 100000 in
set_option maxHeartbeats 1600000 in
theorem s_PermIdx2 (A : Option Addr) (cap : Nat) (z : List Int) (i : Nat) (w : World) (h : RdI w A 2 z) (hp : isPerm z = true) (hnc : 2 ≤ cap) (hi : i < 4) :
    Calls Try.prog 102 #[.slice A 2 cap, .int .i64 i] w fun e w' => e = .returned (.int .i64 (idxP z i : Nat)) ∧ Below w.heap.size w w' := by
  have hz4 : ∀ x ∈ z, 0 ≤ x ∧ x < 4 := fun x hx => by have := ((isPerm_iff z).1 hp).1 x hx; have := h.1; omega
  have H := Lib.hid h
  have HP := Lib.hid hp
  have HZ := Lib.hid hz4
  have HI := Lib.hid (piI_idx hp h.1 (show i < 2 ^ 2 from hi))
  obtain ⟨R, hR⟩ : ∃ R, ((idxP z i : Nat) : Int) = R := ⟨_, rfl⟩
  have HR := Lib.hid hR
  rw [hR]
  have I1 := Lib.hid (show inB (i : Int) 0 3 = true from inB_t (by omega) (by omega))
  clear h hp hz4 hR
  go_enter Try.func102, Try.ntmps102
  go_wp2_with fail
  refine (s_IsPermutation _ _ _ _ _ H.out hnc (by omega)).mono ?_
  rintro e w1 ⟨rfl, b1⟩
  rw [HP.out]
  have B1 := Lib.hid b1
  clear b1
  go_wp2_with fail
  refine (s_in _ _ _ _).mono ?_
  rintro e w2 ⟨rfl, rfl⟩
  rw [I1.out]
  go_wp2_with fail
  go_loopg [5, 6] 2 (fun r a j wr => ∃ (k : Nat) (x : Int), k + r = 2 ∧ j = .int .i64 k ∧ a = .int .i64 x ∧ piI i k (z.drop k) x = R ∧ w1 = wr)
  case atStart => exact ⟨0, 0, by omega, rfl, rfl, by rw [List.drop_zero, HI.out, HR.out], rfl⟩
  case round =>
    obtain ⟨k, x, hk, rfl, rfl, hpx, rfl⟩ := hrel
    have HX := Lib.hid hpx
    clear hpx
    by_cases hlt : k < 2
    · obtain ⟨b, off, y, rfl, hB, hd, c0⟩ := (H.out.below B1.out).at_ hlt
      have hy := HZ.out y (List.mem_of_mem_drop (i := k) (by rw [hd]; simp))
      have HS := Lib.hid (piI_step (i := i) (x := x) hd)
      clear hd
      have hi0 : (0 : Int) ≤ (k : Int) := by omega
      have hi1 : (k : Int) < 2 := by omega
      go_wp2_with fail
      go_roundg (gk - 1)
      case measure => omega
      case rel => exact ⟨k + 1, _, by omega, by go_num, rfl, by rw [← HX.out, HS.out], rfl⟩
    · have e : x = R := by
        have := HX.out
        rwa [List.drop_eq_nil_of_le (by have := H.out.1; omega), piI] at this
      subst e
      go_wp2_with fail
      go_ret
      exact ⟨rfl, B1.out⟩
set_option maxRecDepth 100000 in
set_option maxHeartbeats 3200000 in
theorem s_PermMat2 (A : Option Addr) (cap : Nat) (z : List Int) (w : World) (h : RdI w A 2 z) (hp : isPerm z = true) (hnc : 2 ≤ cap) :
    Calls Try.prog 40 #[.slice A 2 cap] w (RetSDn 4 (flipL (colsU (fun i => basis 2 (idxP z i)) 4)) w) := by
  have H := Lib.hid h
  have HP := Lib.hid hp
  have HBJ := Lib.hid (perm_bij hp h.1)
  have HLB := Lib.hid (show ∀ i, (basis 2 i).length = 4 from fun i => by simp [basis])
  clear h hp
  go_enter Try.func40, Try.ntmps40
  go_wp2_with fail
  go_loopg [3, 4] 4 (fun r v j wr => ∃ (i : Nat) (A : Option Addr) (c : Nat), i + r = 4 ∧ j = .int .i64 i ∧ v = .slice A i c ∧ OwnSS cellsD wr w.heap.size 79 83 5 (.slice A i c) (colsU (fun i => basis 2 (idxP z i)) i) ∧ Below w.heap.size w wr)
  case atStart => exact ⟨0, _, 0, by omega, rfl, rfl, OwnSS.lit0 w (Nat.le_refl _) _ _ _ _, (Below.refl _ _).alloc (Nat.le_refl _) _⟩
  case round =>
    obtain ⟨i, A3, c3, hi, rfl, rfl, ho, hb⟩ := hrel
    have HB := Lib.hid hb
    have HO0 := Lib.hid ho
    have hs0 := hb.size
    clear hb ho
    go_wp2_with fail
    refine (s_IsPermutation _ _ _ _ _ (H.out.below HB.out) hnc (by omega)).mono ?_
    rintro e w1 ⟨rfl, b1⟩
    rw [HP.out]
    have HO := Lib.hid (HO0.out.below b1)
    have HB1 := Lib.hid (HB.out.trans (b1.mono hs0))
    have hs1 := HB1.out.size
    clear b1 HB HO0
    by_cases hlt : i < 4
    · obtain ⟨t, ht⟩ : ∃ t, idxP z i = t := ⟨_, rfl⟩
      have htQ : t < 4 := by rw [← ht]; exact (HBJ.out i hlt).1
      have HT := Lib.hid ht
      clear ht
      go_wp2_with fail
      refine (s_PermIdx2 _ _ z i _ (H.out.below HB1.out) HP.out hnc hlt).mono ?_
      rintro e w2 ⟨rfl, b2⟩
      rw [HT.out]
      go_wp2_with fail
      refine (s_Basis 2 t _ (by omega) (by omega) htQ).mono ?_
      rintro e w3 ⟨A4, c4, rfl, o4, b4⟩
      have B4 := Lib.hid (below_trans b2 b4)
      have HR := Lib.hid (ownsRow_base o4 b2.size)
      have hs4 := B4.out.size
      clear o4 b2 b4
      have HW := Lib.hid (HO.out.below B4.out)
      obtain ⟨vs, a1, a2, a3⟩ := HW.out
      rw [colsU_len] at a1
      have A1 := Lib.hid a1
      clear a1 a2 a3
      go_wp2_with (at_builtin; refine wpList_app rfl (.tmp 18) (.tmp 25) 27 rfl Try.underlying27 infoDOmegaS rfl (by decide) rfl (A1.out.alloc _) rfl (Rd.lit w3 79 #[.slice A4 4 c4] 1 1 rfl) (by simp [Value.oneCell']) (by omega) (by decide) (by simp <;> omega) ?_; intro A9 c9 w9 o9 g9)
      go_roundg (gk - 1)
      case measure => omega
      case rel =>
        refine ⟨i + 1, A9, c9, by omega, by go_num, rfl, ?_, below_grown ((HB1.out.trans (B4.out.mono hs1)).alloc (by omega) _) (by simp <;> omega) (A1.out.alloc _) (Nat.le_refl _) g9⟩
        rw [colsU_succ, HT.out]
        exact OwnSS.app1 (by decide) HO.out (Nat.le_refl _) hs1 (B4.out.alloc hs4 _) (HLB.out t) (HR.out.alloc _) (colsU_len _ i) (A1.out.alloc _) g9 o9
    · obtain rfl : i = 4 := by omega
      have HA := Lib.hid (colsU_all (U := fun i => basis 2 (idxP z i)) (k := 4) (n := 4) fun j _ => HLB.out _)
      have HFL := Lib.hid (show (flipL (colsU (fun i => basis 2 (idxP z i)) 4)).length = 4 by rw [flipL_len, colsU_len])
      go_wp2_with fail
      refine (s_l7Cols _ 4 _ (colsU (fun i => basis 2 (idxP z i)) 4) _ (HO.out.rd (colsU_len _ _)) (by omega) HA.out).mono ?_
      rintro e w6 ⟨A6, c6, rfl, o6, b6⟩
      rw [HFL.out] at o6 ⊢
      go_wp2_with fail
      go_ret
      exact ⟨_, _, rfl, o6.base_ hs1, HB1.out.trans (b6.mono hs1)⟩
set_option maxRecDepth 100000 in
set_option maxHeartbeats 1600000 in
theorem s_PermIdx3 (A : Option Addr) (cap : Nat) (z : List Int) (i : Nat) (w : World) (h : RdI w A 3 z) (hp : isPerm z = true) (hnc : 3 ≤ cap) (hi : i < 8) :
    Calls Try.prog 102 #[.slice A 3 cap, .int .i64 i] w fun e w' => e = .returned (.int .i64 (idxP z i : Nat)) ∧ Below w.heap.size w w' := by
  have hz4 : ∀ x ∈ z, 0 ≤ x ∧ x < 4 := fun x hx => by have := ((isPerm_iff z).1 hp).1 x hx; have := h.1; omega
  have H := Lib.hid h
  have HP := Lib.hid hp
  have HZ := Lib.hid hz4
  have HI := Lib.hid (piI_idx hp h.1 (show i < 2 ^ 3 from hi))
  obtain ⟨R, hR⟩ : ∃ R, ((idxP z i : Nat) : Int) = R := ⟨_, rfl⟩
  have HR := Lib.hid hR
  rw [hR]
  have I1 := Lib.hid (show inB (i : Int) 0 7 = true from inB_t (by omega) (by omega))
  clear h hp hz4 hR
  go_enter Try.func102, Try.ntmps102
  go_wp2_with fail
  refine (s_IsPermutation _ _ _ _ _ H.out hnc (by omega)).mono ?_
  rintro e w1 ⟨rfl, b1⟩
  rw [HP.out]
  have B1 := Lib.hid b1
  clear b1
  go_wp2_with fail
  refine (s_in _ _ _ _).mono ?_
  rintro e w2 ⟨rfl, rfl⟩
  rw [I1.out]
  go_wp2_with fail
  go_loopg [5, 6] 3 (fun r a j wr => ∃ (k : Nat) (x : Int), k + r = 3 ∧ j = .int .i64 k ∧ a = .int .i64 x ∧ piI i k (z.drop k) x = R ∧ w1 = wr)
  case atStart => exact ⟨0, 0, by omega, rfl, rfl, by rw [List.drop_zero, HI.out, HR.out], rfl⟩
  case round =>
    obtain ⟨k, x, hk, rfl, rfl, hpx, rfl⟩ := hrel
    have HX := Lib.hid hpx
    clear hpx
    by_cases hlt : k < 3
    · obtain ⟨b, off, y, rfl, hB, hd, c0⟩ := (H.out.below B1.out).at_ hlt
      have hy := HZ.out y (List.mem_of_mem_drop (i := k) (by rw [hd]; simp))
      have HS := Lib.hid (piI_step (i := i) (x := x) hd)
      clear hd
      have hi0 : (0 : Int) ≤ (k : Int) := by omega
      have hi1 : (k : Int) < 3 := by omega
      go_wp2_with fail
      go_roundg (gk - 1)
      case measure => omega
      case rel => exact ⟨k + 1, _, by omega, by go_num, rfl, by rw [← HX.out, HS.out], rfl⟩
    · have e : x = R := by
        have := HX.out
        rwa [List.drop_eq_nil_of_le (by have := H.out.1; omega), piI] at this
      subst e
      go_wp2_with fail
      go_ret
      exact ⟨rfl, B1.out⟩
set_option maxRecDepth 100000 in
set_option maxHeartbeats 3200000 in
theorem s_PermMat3 (A : Option Addr) (cap : Nat) (z : List Int) (w : World) (h : RdI w A 3 z) (hp : isPerm z = true) (hnc : 3 ≤ cap) :
    Calls Try.prog 40 #[.slice A 3 cap] w (RetSDn 8 (flipL (colsU (fun i => basis 3 (idxP z i)) 8)) w) := by
  have H := Lib.hid h
  have HP := Lib.hid hp
  have HBJ := Lib.hid (perm_bij hp h.1)
  have HLB := Lib.hid (show ∀ i, (basis 3 i).length = 8 from fun i => by simp [basis])
  clear h hp
  go_enter Try.func40, Try.ntmps40
  go_wp2_with fail
  go_loopg [3, 4] 8 (fun r v j wr => ∃ (i : Nat) (A : Option Addr) (c : Nat), i + r = 8 ∧ j = .int .i64 i ∧ v = .slice A i c ∧ OwnSS cellsD wr w.heap.size 79 83 5 (.slice A i c) (colsU (fun i => basis 3 (idxP z i)) i) ∧ Below w.heap.size w wr)
  case atStart => exact ⟨0, _, 0, by omega, rfl, rfl, OwnSS.lit0 w (Nat.le_refl _) _ _ _ _, (Below.refl _ _).alloc (Nat.le_refl _) _⟩
  case round =>
    obtain ⟨i, A3, c3, hi, rfl, rfl, ho, hb⟩ := hrel
    have HB := Lib.hid hb
    have HO0 := Lib.hid ho
    have hs0 := hb.size
    clear hb ho
    go_wp2_with fail
    refine (s_IsPermutation _ _ _ _ _ (H.out.below HB.out) hnc (by omega)).mono ?_
    rintro e w1 ⟨rfl, b1⟩
    rw [HP.out]
    have HO := Lib.hid (HO0.out.below b1)
    have HB1 := Lib.hid (HB.out.trans (b1.mono hs0))
    have hs1 := HB1.out.size
    clear b1 HB HO0
    by_cases hlt : i < 8
    · obtain ⟨t, ht⟩ : ∃ t, idxP z i = t := ⟨_, rfl⟩
      have htQ : t < 8 := by rw [← ht]; exact (HBJ.out i hlt).1
      have HT := Lib.hid ht
      clear ht
      go_wp2_with fail
      refine (s_PermIdx3 _ _ z i _ (H.out.below HB1.out) HP.out hnc hlt).mono ?_
      rintro e w2 ⟨rfl, b2⟩
      rw [HT.out]
      go_wp2_with fail
      refine (s_Basis 3 t _ (by omega) (by omega) htQ).mono ?_
      rintro e w3 ⟨A4, c4, rfl, o4, b4⟩
      have B4 := Lib.hid (below_trans b2 b4)
      have HR := Lib.hid (ownsRow_base o4 b2.size)
      have hs4 := B4.out.size
      clear o4 b2 b4
      have HW := Lib.hid (HO.out.below B4.out)
      obtain ⟨vs, a1, a2, a3⟩ := HW.out
      rw [colsU_len] at a1
      have A1 := Lib.hid a1
      clear a1 a2 a3
      go_wp2_with (at_builtin; refine wpList_app rfl (.tmp 18) (.tmp 25) 27 rfl Try.underlying27 infoDOmegaS rfl (by decide) rfl (A1.out.alloc _) rfl (Rd.lit w3 79 #[.slice A4 8 c4] 1 1 rfl) (by simp [Value.oneCell']) (by omega) (by decide) (by simp <;> omega) ?_; intro A9 c9 w9 o9 g9)
      go_roundg (gk - 1)
      case measure => omega
      case rel =>
        refine ⟨i + 1, A9, c9, by omega, by go_num, rfl, ?_, below_grown ((HB1.out.trans (B4.out.mono hs1)).alloc (by omega) _) (by simp <;> omega) (A1.out.alloc _) (Nat.le_refl _) g9⟩
        rw [colsU_succ, HT.out]
        exact OwnSS.app1 (by decide) HO.out (Nat.le_refl _) hs1 (B4.out.alloc hs4 _) (HLB.out t) (HR.out.alloc _) (colsU_len _ i) (A1.out.alloc _) g9 o9
    · obtain rfl : i = 8 := by omega
      have HA := Lib.hid (colsU_all (U := fun i => basis 3 (idxP z i)) (k := 8) (n := 8) fun j _ => HLB.out _)
      have HFL := Lib.hid (show (flipL (colsU (fun i => basis 3 (idxP z i)) 8)).length = 8 by rw [flipL_len, colsU_len])
      go_wp2_with fail
      refine (s_l7Cols _ 8 _ (colsU (fun i => basis 3 (idxP z i)) 8) _ (HO.out.rd (colsU_len _ _)) (by omega) HA.out).mono ?_
      rintro e w6 ⟨A6, c6, rfl, o6, b6⟩
      rw [HFL.out] at o6 ⊢
      go_wp2_with fail
      go_ret
      exact ⟨_, _, rfl, o6.base_ hs1, HB1.out.trans (b6.mono hs1)⟩
set_option maxRecDepth 100000 in
set_option maxHeartbeats 1600000 in
theorem s_PermIdx4 (A : Option Addr) (cap : Nat) (z : List Int) (i : Nat) (w : World) (h : RdI w A 4 z) (hp : isPerm z = true) (hnc : 4 ≤ cap) (hi : i < 16) :
    Calls Try.prog 102 #[.slice A 4 cap, .int .i64 i] w fun e w' => e = .returned (.int .i64 (idxP z i : Nat)) ∧ Below w.heap.size w w' := by
  have hz4 : ∀ x ∈ z, 0 ≤ x ∧ x < 4 := fun x hx => by have := ((isPerm_iff z).1 hp).1 x hx; have := h.1; omega
  have H := Lib.hid h
  have HP := Lib.hid hp
  have HZ := Lib.hid hz4
  have HI := Lib.hid (piI_idx hp h.1 (show i < 2 ^ 4 from hi))
  obtain ⟨R, hR⟩ : ∃ R, ((idxP z i : Nat) : Int) = R := ⟨_, rfl⟩
  have HR := Lib.hid hR
  rw [hR]
  have I1 := Lib.hid (show inB (i : Int) 0 15 = true from inB_t (by omega) (by omega))
  clear h hp hz4 hR
  go_enter Try.func102, Try.ntmps102
  go_wp2_with fail
  refine (s_IsPermutation _ _ _ _ _ H.out hnc (by omega)).mono ?_
  rintro e w1 ⟨rfl, b1⟩
  rw [HP.out]
  have B1 := Lib.hid b1
  clear b1
  go_wp2_with fail
  refine (s_in _ _ _ _).mono ?_
  rintro e w2 ⟨rfl, rfl⟩
  rw [I1.out]
  go_wp2_with fail
  go_loopg [5, 6] 4 (fun r a j wr => ∃ (k : Nat) (x : Int), k + r = 4 ∧ j = .int .i64 k ∧ a = .int .i64 x ∧ piI i k (z.drop k) x = R ∧ w1 = wr)
  case atStart => exact ⟨0, 0, by omega, rfl, rfl, by rw [List.drop_zero, HI.out, HR.out], rfl⟩
  case round =>
    obtain ⟨k, x, hk, rfl, rfl, hpx, rfl⟩ := hrel
    have HX := Lib.hid hpx
    clear hpx
    by_cases hlt : k < 4
    · obtain ⟨b, off, y, rfl, hB, hd, c0⟩ := (H.out.below B1.out).at_ hlt
      have hy := HZ.out y (List.mem_of_mem_drop (i := k) (by rw [hd]; simp))
      have HS := Lib.hid (piI_step (i := i) (x := x) hd)
      clear hd
      have hi0 : (0 : Int) ≤ (k : Int) := by omega
      have hi1 : (k : Int) < 4 := by omega
      go_wp2_with fail
      go_roundg (gk - 1)
      case measure => omega
      case rel => exact ⟨k + 1, _, by omega, by go_num, rfl, by rw [← HX.out, HS.out], rfl⟩
    · have e : x = R := by
        have := HX.out
        rwa [List.drop_eq_nil_of_le (by have := H.out.1; omega), piI] at this
      subst e
      go_wp2_with fail
      go_ret
      exact ⟨rfl, B1.out⟩
set_option maxRecDepth 100000 in
set_option maxHeartbeats 3200000 in
theorem s_PermMat4 (A : Option Addr) (cap : Nat) (z : List Int) (w : World) (h : RdI w A 4 z) (hp : isPerm z = true) (hnc : 4 ≤ cap) :
    Calls Try.prog 40 #[.slice A 4 cap] w (RetSDn 16 (flipL (colsU (fun i => basis 4 (idxP z i)) 16)) w) := by
  have H := Lib.hid h
  have HP := Lib.hid hp
  have HBJ := Lib.hid (perm_bij hp h.1)
  have HLB := Lib.hid (show ∀ i, (basis 4 i).length = 16 from fun i => by simp [basis])
  clear h hp
  go_enter Try.func40, Try.ntmps40
  go_wp2_with fail
  go_loopg [3, 4] 16 (fun r v j wr => ∃ (i : Nat) (A : Option Addr) (c : Nat), i + r = 16 ∧ j = .int .i64 i ∧ v = .slice A i c ∧ OwnSS cellsD wr w.heap.size 79 83 5 (.slice A i c) (colsU (fun i => basis 4 (idxP z i)) i) ∧ Below w.heap.size w wr)
  case atStart => exact ⟨0, _, 0, by omega, rfl, rfl, OwnSS.lit0 w (Nat.le_refl _) _ _ _ _, (Below.refl _ _).alloc (Nat.le_refl _) _⟩
  case round =>
    obtain ⟨i, A3, c3, hi, rfl, rfl, ho, hb⟩ := hrel
    have HB := Lib.hid hb
    have HO0 := Lib.hid ho
    have hs0 := hb.size
    clear hb ho
    go_wp2_with fail
    refine (s_IsPermutation _ _ _ _ _ (H.out.below HB.out) hnc (by omega)).mono ?_
    rintro e w1 ⟨rfl, b1⟩
    rw [HP.out]
    have HO := Lib.hid (HO0.out.below b1)
    have HB1 := Lib.hid (HB.out.trans (b1.mono hs0))
    have hs1 := HB1.out.size
    clear b1 HB HO0
    by_cases hlt : i < 16
    · obtain ⟨t, ht⟩ : ∃ t, idxP z i = t := ⟨_, rfl⟩
      have htQ : t < 16 := by rw [← ht]; exact (HBJ.out i hlt).1
      have HT := Lib.hid ht
      clear ht
      go_wp2_with fail
      refine (s_PermIdx4 _ _ z i _ (H.out.below HB1.out) HP.out hnc hlt).mono ?_
      rintro e w2 ⟨rfl, b2⟩
      rw [HT.out]
      go_wp2_with fail
      refine (s_Basis 4 t _ (by omega) (by omega) htQ).mono ?_
      rintro e w3 ⟨A4, c4, rfl, o4, b4⟩
      have B4 := Lib.hid (below_trans b2 b4)
      have HR := Lib.hid (ownsRow_base o4 b2.size)
      have hs4 := B4.out.size
      clear o4 b2 b4
      have HW := Lib.hid (HO.out.below B4.out)
      obtain ⟨vs, a1, a2, a3⟩ := HW.out
      rw [colsU_len] at a1
      have A1 := Lib.hid a1
      clear a1 a2 a3
      go_wp2_with (at_builtin; refine wpList_app rfl (.tmp 18) (.tmp 25) 27 rfl Try.underlying27 infoDOmegaS rfl (by decide) rfl (A1.out.alloc _) rfl (Rd.lit w3 79 #[.slice A4 16 c4] 1 1 rfl) (by simp [Value.oneCell']) (by omega) (by decide) (by simp <;> omega) ?_; intro A9 c9 w9 o9 g9)
      go_roundg (gk - 1)
      case measure => omega
      case rel =>
        refine ⟨i + 1, A9, c9, by omega, by go_num, rfl, ?_, below_grown ((HB1.out.trans (B4.out.mono hs1)).alloc (by omega) _) (by simp <;> omega) (A1.out.alloc _) (Nat.le_refl _) g9⟩
        rw [colsU_succ, HT.out]
        exact OwnSS.app1 (by decide) HO.out (Nat.le_refl _) hs1 (B4.out.alloc hs4 _) (HLB.out t) (HR.out.alloc _) (colsU_len _ i) (A1.out.alloc _) g9 o9
    · obtain rfl : i = 16 := by omega
      have HA := Lib.hid (colsU_all (U := fun i => basis 4 (idxP z i)) (k := 16) (n := 16) fun j _ => HLB.out _)
      have HFL := Lib.hid (show (flipL (colsU (fun i => basis 4 (idxP z i)) 16)).length = 16 by rw [flipL_len, colsU_len])
      go_wp2_with fail
      refine (s_l7Cols _ 16 _ (colsU (fun i => basis 4 (idxP z i)) 16) _ (HO.out.rd (colsU_len _ _)) (by omega) HA.out).mono ?_
      rintro e w6 ⟨A6, c6, rfl, o6, b6⟩
      rw [HFL.out] at o6 ⊢
      go_wp2_with fail
      go_ret
      exact ⟨_, _, rfl, o6.base_ hs1, HB1.out.trans (b6.mono hs1)⟩
theorem s_PermMat (q : Nat) (A : Option Addr) (cap : Nat) (z : List Int) (w : World) (h : RdI w A q z) (hp : isPerm z = true) (hnc : q ≤ cap) :
    Calls Try.prog 40 #[.slice A q cap] w (RetSDn (2 ^ q) (flipL (colsU (fun i => basis q (idxP z i)) (2 ^ q))) w) := by
  have hq := perm_n hp h.1
  obtain rfl | rfl | rfl | rfl : q = 1 ∨ q = 2 ∨ q = 3 ∨ q = 4 := by omega
  · exact s_PermMat1 A cap z w h hp hnc
  · exact s_PermMat2 A cap z w h hp hnc
  · exact s_PermMat3 A cap z w h hp hnc
  · exact s_PermMat4 A cap z w h hp hnc
set_option maxHeartbeats 1600000 in
theorem s_IsMat0 (A : Option Addr) (cap : Nat) (w : World) : Calls Try.prog 99 #[.slice A 0 cap] w fun e w' => e = .returned (.bool false) ∧ w = w' := by
  go_enter Try.func99, Try.ntmps99
  go_wp2_with fail
  refine wp_loop_rounds 1 ?_
  rw [rounds_succ]
  go_wp2_with fail
  go_ret
  exact ⟨rfl, rfl⟩
set_option maxRecDepth 100000 in
set_option maxHeartbeats 1600000 in
/-- A product whose left side is empty. -/
theorem s_MulNo1 (A : Option Addr) (ca : Nat) (B : Option Addr) (n cb : Nat) (w : World) :
    Calls Try.prog 39 #[.slice A 0 ca, .slice B n cb] w fun e w' => ∃ D c, e = .returned (.tuple #[.slice D 0 c, .bool false]) ∧ Below w.heap.size w w' := by
  go_enter Try.func39, Try.ntmps39
  go_wp2_with fail
  refine (s_IsMat0 _ _ _).mono ?_
  rintro e w1 ⟨rfl, rfl⟩
  go_wp2_with fail
  exact bodyPost_ret (v := .tuple #[.slice (some ⟨w.heap.size, 0, none⟩) 0 0, .bool false]) (by simp [results, Try.results39, go_sem]) rfl ⟨_, _, rfl, (Below.refl _ _).alloc (Nat.le_refl _) _⟩
set_option maxRecDepth 100000 in
set_option maxHeartbeats 1600000 in
/-- A product whose right side is empty. -/
theorem s_MulNo2 (q : Nat) (A : Option Addr) (n ca : Nat) (B : Option Addr) (cb : Nat) (l : List (List Dw)) (w : World) (h : RdSS cellsD w 5 A n l) (h1 : 1 ≤ q) (h4 : q ≤ 4) (hn : n = 2 ^ q) (hl : ∀ x ∈ l, x.length = n ∧ ∀ u ∈ x, okD u = true) :
    Calls Try.prog 39 #[.slice A n ca, .slice B 0 cb] w fun e w' => ∃ D c, e = .returned (.tuple #[.slice D 0 c, .bool false]) ∧ Below w.heap.size w w' := by
  have H := Lib.hid h
  have HN := Lib.hid hn
  have HL := Lib.hid hl
  clear h hn hl
  go_enter Try.func39, Try.ntmps39
  go_wp2_with fail
  refine (s_IsMatrix _ n _ q l _ H.out h1 h4 HN.out HL.out).mono ?_
  rintro e w1 ⟨rfl, b1⟩
  go_wp2_with fail
  refine (s_IsMat0 _ _ _).mono ?_
  rintro e w2 ⟨rfl, rfl⟩
  go_wp2_with fail
  exact bodyPost_ret (v := .tuple #[.slice (some ⟨w1.heap.size, 0, none⟩) 0 0, .bool false]) (by simp [results, Try.results39, go_sem]) rfl ⟨_, _, rfl, b1.alloc b1.size _⟩
end Go.Proofs.Ytibhikngiceeeaa
namespace Go.Proofs.Ytibhikngiceeeaa
open Go.RowKit
set_option linter.unusedVariables false

/-- The number of Hadamard gates. -/
def hN : List Gt → Nat
  | [] => 0
  | g :: r => (if g.k = 4 then 1 else 0) + hN r
theorem hN_app : ∀ a b : List Gt, hN (a ++ b) = hN a + hN b
  | [], b => by simp [hN]
  | g :: r, b => by rw [List.cons_append, hN, hN, hN_app r b]; omega
def RetDG (B H : Nat) (w : World) (e : Ending) (w' : World) : Prop :=
  ∃ (A : Option Addr) (n c : Nat) (gs : List Gt), e = .returned (.slice A n c) ∧ gs.length = n ∧ (n ≤ B ∧ hN gs ≤ H) ∧ w'.ownsRow w.heap.size 55 4 (.slice A n c) n (cellsG gs) ∧ Below w.heap.size w w'
set_option maxRecDepth 100000 in
set_option maxHeartbeats 3200000 in
theorem s_DecomposeGate (g : Gt) (w : World) : Calls Try.prog 181 #[.agg #[.int .i64 g.k, .int .i64 g.a, .int .i64 g.b, .int .i64 g.c]] w (RetDG 15 2 w) := by
  obtain ⟨k, a, b, c⟩ := g
  have hB : Below w.heap.size w (w.alloc (.cells #[.int .i64 k, .int .i64 a, .int .i64 b, .int .i64 c] 55)) := (Below.refl _ _).alloc (Nat.le_refl _) _
  by_cases h10 : k = 10
  · subst h10
    go_enter Try.func181, Try.ntmps181
    go_wp2_with (first
      | (go_at_call 147; refine (s_one _ _ _).mono ?_; rintro e w1 ⟨rfl, b1⟩; have hB := below_trans hB b1)
      | (go_at_call 151; refine (s_cx _ _ _).mono ?_; rintro e w1 ⟨rfl, b1⟩; have hB := below_trans hB b1))
    go_ret
    have hs := hB.size
    exact ⟨_, 3, 3, [⟨4, b, 0, 0⟩, ⟨9, a, b, 0⟩, ⟨4, b, 0, 0⟩], rfl, rfl, ⟨by omega, by simp [hN]⟩, World.ownsRow_lit _ #[.int .i64 4, .int .i64 b, .int .i64 0, .int .i64 0, .int .i64 9, .int .i64 a, .int .i64 b, .int .i64 0, .int .i64 4, .int .i64 b, .int .i64 0, .int .i64 0] 3 hs (by simp [maxLen]) rfl, hB.alloc hs _⟩
  · by_cases h11 : k = 11
    · subst h11
      go_enter Try.func181, Try.ntmps181
      go_wp2_with (first
        | (go_at_call 147; refine (s_one _ _ _).mono ?_; rintro e w1 ⟨rfl, b1⟩; have hB := below_trans hB b1)
        | (go_at_call 151; refine (s_cx _ _ _).mono ?_; rintro e w1 ⟨rfl, b1⟩; have hB := below_trans hB b1))
      go_ret
      have hs := hB.size
      exact ⟨_, 3, 3, [⟨9, a, b, 0⟩, ⟨9, b, a, 0⟩, ⟨9, a, b, 0⟩], rfl, rfl, ⟨by omega, by simp [hN]⟩, World.ownsRow_lit _ #[.int .i64 9, .int .i64 a, .int .i64 b, .int .i64 0, .int .i64 9, .int .i64 b, .int .i64 a, .int .i64 0, .int .i64 9, .int .i64 a, .int .i64 b, .int .i64 0] 3 hs (by simp [maxLen]) rfl, hB.alloc hs _⟩
    · by_cases h12 : k = 12
      · subst h12
        go_enter Try.func181, Try.ntmps181
        go_upto_region 11 with (first
          | (go_at_call 147; refine (s_one _ _ _).mono ?_; rintro e w1 ⟨rfl, b1⟩; have hB := below_trans hB b1)
          | (go_at_call 151; refine (s_cx _ _ _).mono ?_; rintro e w1 ⟨rfl, b1⟩; have hB := below_trans hB b1))
        have hs := hB.size
        have o8 := World.ownsRow_lit w1 #[.int .i64 4, .int .i64 c, .int .i64 0, .int .i64 0, .int .i64 9, .int .i64 b, .int .i64 c, .int .i64 0, .int .i64 8, .int .i64 c, .int .i64 0, .int .i64 0, .int .i64 9, .int .i64 a, .int .i64 c, .int .i64 0, .int .i64 7, .int .i64 c, .int .i64 0, .int .i64 0, .int .i64 9, .int .i64 b, .int .i64 c, .int .i64 0, .int .i64 8, .int .i64 c, .int .i64 0, .int .i64 0, .int .i64 9, .int .i64 a, .int .i64 c, .int .i64 0] 8 (size := 4) (e := 55) (base := w.heap.size) hs (by simp [maxLen]) rfl
        have hB := hB.alloc hs (.cells #[.int .i64 4, .int .i64 c, .int .i64 0, .int .i64 0, .int .i64 9, .int .i64 b, .int .i64 c, .int .i64 0, .int .i64 8, .int .i64 c, .int .i64 0, .int .i64 0, .int .i64 9, .int .i64 a, .int .i64 c, .int .i64 0, .int .i64 7, .int .i64 c, .int .i64 0, .int .i64 0, .int .i64 9, .int .i64 b, .int .i64 c, .int .i64 0, .int .i64 8, .int .i64 c, .int .i64 0, .int .i64 0, .int .i64 9, .int .i64 a, .int .i64 c, .int .i64 0] 55)
        go_wp2_with (first
          | (go_at_call 147; refine (s_one _ _ _).mono ?_; rintro e w1 ⟨rfl, b1⟩; have o8 := ownsRow_below o8 b1; have hB := below_trans hB b1)
          | (go_at_call 151; refine (s_cx _ _ _).mono ?_; rintro e w1 ⟨rfl, b1⟩; have o8 := ownsRow_below o8 b1; have hB := below_trans hB b1)
          | (at_builtin; have hs := hB.size; refine wpList_app rfl (.tmp 60) (.tmp 77) 41 rfl Try.underlying41 infoGate rfl (by decide) rfl (o8.alloc _) rfl (Rd.lit w1 55 #[.int .i64 7, .int .i64 b, .int .i64 0, .int .i64 0, .int .i64 7, .int .i64 c, .int .i64 0, .int .i64 0, .int .i64 4, .int .i64 c, .int .i64 0, .int .i64 0, .int .i64 9, .int .i64 a, .int .i64 b, .int .i64 0, .int .i64 7, .int .i64 a, .int .i64 0, .int .i64 0, .int .i64 8, .int .i64 b, .int .i64 0, .int .i64 0, .int .i64 9, .int .i64 a, .int .i64 b, .int .i64 0] 7 4 rfl) (by simp [Value.oneCell']) (by omega) (by decide) (by simp <;> omega) ?_; intro A9 c9 w9 o9 g9))
        go_ret
        exact ⟨A9, 15, c9, [⟨4, c, 0, 0⟩, ⟨9, b, c, 0⟩, ⟨8, c, 0, 0⟩, ⟨9, a, c, 0⟩, ⟨7, c, 0, 0⟩, ⟨9, b, c, 0⟩, ⟨8, c, 0, 0⟩, ⟨9, a, c, 0⟩, ⟨7, b, 0, 0⟩, ⟨7, c, 0, 0⟩, ⟨4, c, 0, 0⟩, ⟨9, a, b, 0⟩, ⟨7, a, 0, 0⟩, ⟨8, b, 0, 0⟩, ⟨9, a, b, 0⟩], rfl, rfl, ⟨by omega, by simp [hN]⟩, o9, below_grown (hB.alloc hB.size _) (by have := hB.size; simp <;> omega) (o8.alloc _) (Nat.le_refl _) g9⟩
      · have e1 : (k == 10) = false := by simpa using h10
        have e2 : (k == 11) = false := by simpa using h11
        have e3 : (k == 12) = false := by simpa using h12
        go_enter Try.func181, Try.ntmps181
        go_wp2_with fail
        go_ret
        have o1 := World.ownsRow_lit (w.alloc (.cells #[.int .i64 k, .int .i64 a, .int .i64 b, .int .i64 c] 55)) #[.int .i64 k, .int .i64 a, .int .i64 b, .int .i64 c] 1 (size := 4) (e := 55) hB.size (by simp [maxLen]) rfl
        rw [World.size_alloc] at o1
        exact ⟨_, 1, 1, [⟨k, a, b, c⟩], rfl, rfl, ⟨by omega, by simp [hN]; split <;> omega⟩, o1, hB.alloc hB.size _⟩

set_option maxHeartbeats 1600000 in
theorem s_DecomposeGates (A : Option Addr) (n cap : Nat) (gs : List Gt) (w : World) (h : RdG w A n gs) (hn : n ≤ 1048576) : Calls Try.prog 164 #[.slice A n cap] w (RetDG (15 * n) (2 * n) w) := by
  have H := Lib.hid h
  clear h
  go_enter Try.func164, Try.ntmps164
  go_wp2_with fail
  go_loopg [4, 3] n (fun r i v wr => ∃ (k : Nat) (A0 : Option Addr) (m c0 : Nat) (os : List Gt), k + r = n ∧ i = .int .i64 k ∧ v = .slice A0 m c0 ∧ os.length = m ∧ (m ≤ 15 * k ∧ hN os ≤ 2 * k) ∧ wr.ownsRow w.heap.size 55 4 (.slice A0 m c0) m (cellsG os) ∧ Below w.heap.size w wr)
  case atStart => exact ⟨0, _, 0, _, [], by omega, rfl, rfl, rfl, ⟨by omega, by simp [hN]⟩, World.ownsRow_lit w #[] 0 (Nat.le_refl _) (by simp [maxLen]) rfl, (Below.refl _ _).alloc (Nat.le_refl _) _⟩
  case round =>
    obtain ⟨k, A0, m, c0, os, hk, rfl, rfl, hl, ⟨hm, hh⟩, ho, hb⟩ := hrel
    have HO := Lib.hid ho
    have HL := Lib.hid hl
    have hs := hb.size
    clear ho hl
    by_cases hlt : k < n
    · obtain ⟨bb, off, g, rfl, hB, hd, d0, d1, d2, d3⟩ := (H.out.below hb).at_ hlt
      clear hd
      go_wp2_with fail
      refine (s_DecomposeGate g _).mono ?_
      rintro e w2 ⟨A2, n2, c2, g2, rfl, hl2, ⟨hn2, hh2⟩, o2, b2⟩
      have hs2 := b2.size
      have O2 := Lib.hid (RdG.own o2).2
      have HO2 := Lib.hid (ownsRow_below HO.out b2)
      have hone : ∀ u ∈ cellsG g2, u.oneCell' = true := fun u hu => by
        simp only [cellsG, List.mem_flatMap] at hu
        obtain ⟨q, _, hq⟩ := hu
        simp [Gt.cells] at hq
        rcases hq with rfl | rfl | rfl | rfl <;> rfl
      go_wp2_with (at_builtin; refine wpList_app rfl (.tmp 12) (.tmp 17) 41 rfl Try.underlying41 infoGate rfl (by decide) rfl HO2.out rfl O2.out hone (by omega) (by decide) (by omega) ?_; intro A5 c5 w5 o5 g5)
      go_roundg (gk - 1)
      case measure => omega
      case rel => exact ⟨k + 1, A5, m + n2, c5, os ++ g2, by omega, by go_num, rfl, by simp [HL.out, hl2], ⟨by omega, by rw [hN_app]; omega⟩, by rw [cellsG_append]; exact o5, below_grown (hb.trans (b2.mono hs)) (by omega) HO2.out (Nat.le_refl _) g5⟩
    · go_wp2_with fail
      go_ret
      exact ⟨A0, m, c0, os, rfl, HL.out, ⟨by omega, by omega⟩, HO.out, hb⟩
end Go.Proofs.Ytibhikngiceeeaa
namespace Go.Proofs.Ytibhikngiceeeaa
open Go.RowKit
set_option linter.unusedVariables false

theorem own_own_ne {w : World} {b b' : Nat} {e e' : TypeId} {sz sz' n n' : Nat} {v v' : Value} {xs xs' : List Value} (h : w.ownsRow b e sz v n xs) (h' : w.ownsRow b' e' sz' v' n' xs') (hne : e ≠ e') : v.ownBlock = none ∨ v.ownBlock ≠ v'.ownBlock := by
  rcases h.2 with ⟨rfl, _⟩ | ⟨g, cap, cur, rfl, _, hh, _⟩
  · exact .inl rfl
  · right
    intro he
    rcases h'.2 with ⟨rfl, _⟩ | ⟨g', cap', cur', rfl, _, hh', _⟩
    · cases he
    · simp only [Value.ownBlock, Option.some.injEq] at he
      subst he
      rw [hh] at hh'
      injection hh' with hh'
      injection hh' with _ h2
      exact hne h2
/-- A graph's box, its edges, a list of gates, the cursor. -/
def WSt (w : World) (R E g : Nat) (N : Int) (A : Option Addr) (m c : Nat) (ps : List (Int × Int)) (G : Option Addr) (q d : Nat) (gs : List Gt) (wr : World) : Prop :=
  Bx wr R 61 #[.int .i64 0, .slice none 0 0] ∧ Bx wr E 61 #[.int .i64 N, .slice A m c] ∧ wr.ownsRow w.heap.size 167 2 (.slice A m c) m (cellsP ps) ∧ wr.ownsRow w.heap.size 55 4 (.slice G q d) q (cellsG gs) ∧ Cur wr g ∧ w.grownBy wr (some g) ∧ (ps.length = m ∧ gs.length = q ∧ m ≤ 17) ∧ (g < w.heap.size ∧ w.heap.size ≤ R ∧ R < E)
section
variable {w : World} {R E g : Nat} {N : Int} {A : Option Addr} {m c : Nat} {ps : List (Int × Int)} {G : Option Addr} {q d : Nat} {gs : List Gt} {wr w' : World}
theorem WSt.draw (h : WSt w R E g N A m c ps G q d gs wr) (hc : Cur w' g) (gg : wr.grownBy w' (some g)) : WSt w R E g N A m c ps G q d gs w' := by
  obtain ⟨h1, h2, h3, h4, h5, h6, h7, h9⟩ := h
  exact ⟨dr_bx gg h1 (by omega), dr_bx gg h2 (by omega), dr_own gg h5 h3 (by decide), dr_own gg h5 h4 (by decide), hc, dr_trans h6 gg, h7, h9⟩
theorem WSt.below (h : WSt w R E g N A m c ps G q d gs wr) (hb : Below wr.heap.size wr w') : WSt w R E g N A m c ps G q d gs w' := by
  obtain ⟨h1, h2, h3, h4, h5, h6, h7, h9⟩ := h
  exact ⟨h1.below hb, h2.below hb, ownsRow_below h3 hb, ownsRow_below h4 hb, h5.below hb, dr_below h6 hb, h7, h9⟩
theorem WSt.alloc (h : WSt w R E g N A m c ps G q d gs wr) (o : Obj) : WSt w R E g N A m c ps G q d gs (wr.alloc o) := h.below ((Below.refl _ _).alloc (Nat.le_refl _) _)
theorem WSt.drew (h : WSt w R E g N A m c ps G q d gs wr) : WSt w R E g N A m c ps G q d gs wr.drew := h.below ((Below.refl _ _).drew)
theorem WSt.gates {G' : Option Addr} {q' d' : Nat} {gs' : List Gt} (h : WSt w R E g N A m c ps G q d gs wr) (o : wr.ownsRow w.heap.size 55 4 (.slice G' q' d') q' (cellsG gs')) (hl : gs'.length = q') : WSt w R E g N A m c ps G' q' d' gs' wr :=
  ⟨h.1, h.2.1, h.2.2.1, o, h.2.2.2.2.1, h.2.2.2.2.2.1, ⟨h.2.2.2.2.2.2.1.1, hl, h.2.2.2.2.2.2.1.2.2⟩, h.2.2.2.2.2.2.2⟩
theorem WSt.app {G' : Option Addr} {d' : Nat} {x : Gt} (h : WSt w R E g N A m c ps G q d gs wr) (o7 : w'.ownsRow w.heap.size 55 4 (.slice G' (q + 1) d') (q + 1) (cellsG gs ++ cellsG [x])) (g7 : wr.grownBy w' (Value.slice G q d).ownBlock) : WSt w R E g N A m c ps G' (q + 1) d' (gs ++ [x]) w' := by
  obtain ⟨h1, h2, h3, h4, h5, h6, h7, h9⟩ := h
  have hl := fun q hq => (h4.lt q hq).1
  exact ⟨kept_app h4 g7 h1 (by decide), kept_app h4 g7 h2 (by decide), h3.kept g7 (own_own_ne h3 h4 (by decide)), by rw [cellsG_append]; exact o7, h5.row g7 (fun q hq => by have := hl q hq; omega), dr_row h6 g7 (fun q hq => by have := hl q hq; omega), ⟨h7.1, by simp [h7.2.1], h7.2.2⟩, h9⟩
theorem WSt.graph {N' : Int} {A' : Option Addr} {m' c' : Nat} {ps' : List (Int × Int)} (h : WSt w R E g N A m c ps G q d gs wr) (o : wr.ownsRow w.heap.size 167 2 (.slice A' m' c') m' (cellsP ps')) (hl : ps'.length = m') (hm : m' ≤ 17) : WSt w R E g N' A' m' c' ps' G q d gs ((wr.setCell ⟨E, 0, none⟩ (.int .i64 N')).setCell ⟨E, 1, none⟩ (.slice A' m' c')) := by
  obtain ⟨h1, h2, h3, h4, h5, h6, h7, h9⟩ := h
  exact ⟨(h1.far (show R ≠ E by omega) _).far (show R ≠ E by omega) _, (h2.t0 _).t1 _, own_set2 o (own_bx_ne o h2 (by decide)), own_set2 h4 (own_bx_ne h4 h2 (by decide)), (h5.setCell (by show g < E; omega) _).setCell (by show g < E; omega) _, dr_set (dr_set h6 (by show w.heap.size ≤ E; omega) _) (by show w.heap.size ≤ E; omega) _, ⟨hl, h7.2.1, hm⟩, h9⟩
theorem WSt.cells (h : WSt w R E g N A m c ps G q d gs wr) : wr.cell? ⟨E, 0, none⟩ = some (.int .i64 N) ∧ wr.cell? ⟨E, 1, none⟩ = some (.slice A m c) ∧ wr.frozen? ⟨E, 0, none⟩ = false ∧ wr.frozen? ⟨E, 1, none⟩ = false := h.2.1.two
theorem WSt.res (h : WSt w R E g N A m c ps G q d gs wr) : wr.cell? ⟨R, 0, none⟩ = some (.int .i64 0) ∧ wr.cell? ⟨R, 1, none⟩ = some (.slice none 0 0) ∧ wr.frozen? ⟨R, 0, none⟩ = false ∧ wr.frozen? ⟨R, 1, none⟩ = false := h.1.two
end
/-- Gates and a graph, drawn. -/
def RetW (B H g : Nat) (w : World) (e : Ending) (w' : World) : Prop :=
  ∃ (G : Option Addr) (q d : Nat) (gs : List Gt) (N : Int) (A : Option Addr) (m c : Nat) (ps : List (Int × Int)), e = .returned (.tuple #[.slice G q d, .agg #[.int .i64 N, .slice A m c]]) ∧ gs.length = q ∧ (q ≤ B ∧ hN gs ≤ H) ∧ ps.length = m ∧ m ≤ 17 ∧
    w'.ownsRow w.heap.size 55 4 (.slice G q d) q (cellsG gs) ∧ w'.ownsRow w.heap.size 167 2 (.slice A m c) m (cellsP ps) ∧ Cur w' g ∧ w.grownBy w' (some g)
theorem retW {B H g : Nat} {w wr : World} {R E : Nat} {N : Int} {A : Option Addr} {m c : Nat} {ps : List (Int × Int)} {G : Option Addr} {q d : Nat} {gs : List Gt} (h : WSt w R E g N A m c ps G q d gs wr) (hq : q ≤ B) (hh : hN gs ≤ H) : RetW B H g w (.returned (.tuple #[.slice G q d, .agg #[.int .i64 N, .slice A m c]])) ((wr.setCell ⟨R, 0, none⟩ (.int .i64 N)).setCell ⟨R, 1, none⟩ (.slice A m c)) := by
  obtain ⟨h1, h2, h3, h4, h5, h6, h7, h9⟩ := h
  exact ⟨G, q, d, gs, N, A, m, c, ps, rfl, h7.2.1, ⟨hq, hh⟩, h7.1, h7.2.2, own_set2 h4 (own_bx_ne h4 h1 (by decide)), own_set2 h3 (own_bx_ne h3 h1 (by decide)), cur2 h5 (by omega), dr2 h6 (by omega)⟩

theorem RetW.drew {B H g : Nat} {w w' : World} {e : Ending} (h : RetW B H g w e w') : RetW B H g w e w'.drew := by
  obtain ⟨G, q, d, gs, N, A, m, c, ps, h1, h2, h3, h4, h5, h6, h7, h8, h9⟩ := h
  exact ⟨G, q, d, gs, N, A, m, c, ps, h1, h2, h3, h4, h5, ownsRow_drew h6, ownsRow_drew h7, h8.below (Below.refl _ _).drew, dr_below h9 (Below.refl _ _).drew⟩
theorem run_gates (N : Int) (A : Option Addr) (q c : Nat) (w : World) : Sem.run Try.prog (Instr.field 50 (.agg #[.int .i64 N, .slice A q c]) 1) w = .ok (.slice A q c) w := by kernel_rfl
set_option maxRecDepth 100000 in
set_option maxHeartbeats 6400000 in
theorem s_l37Args (g most : Nat) (w : World) (h : Cur w g) (hm : most ≤ 60) : Calls Try.prog 135 #[.pointer (some ⟨g, 0, none⟩), .int .i64 most] w (RetW (15 * most + 1) (2 * most + 1) g w) := by
  have hg := h.lt
  have C1 := Lib.hid (cur_alloc h (.cells #[.int .i64 0, .slice none 0 0] 61))
  have R1 := Lib.hid (Bx.new w 61 #[.int .i64 0, .slice none 0 0])
  have G1 := Lib.hid (dr_alloc (dr_refl w g) (.cells #[.int .i64 0, .slice none 0 0] 61))
  clear h
  go_enter Try.func135, Try.ntmps135
  go_wp2_with fail
  refine (s_l1Below g 4 _ C1.out (by omega)).mono ?_
  rintro e w2 ⟨y, rfl, ⟨hy, _⟩, hc, gg⟩
  obtain ⟨hy0, hy1⟩ := hy (by omega)
  obtain ⟨n, hn⟩ : ∃ n : Nat, 1 + y = n := ⟨(1 + y).toNat, by omega⟩
  have hn1 : 1 ≤ n := by omega
  have hn4 : n ≤ 4 := by omega
  have C2 := Lib.hid hc
  have R2 := Lib.hid (dr_bx gg R1.out (show w.heap.size ≠ g by omega))
  have G2 := Lib.hid (dr_trans G1.out gg)
  have hs2 := (dr_un gg).size
  clear hy hc gg C1 R1 G1
  go_wp2_with fail
  clear hn hy0 hy1
  refine (s_l36Right g n _ C2.out hn1 hn4).mono ?_
  rintro e w3 ⟨N, A, m, c, ps, rfl, hl, hm16, hNn, o3, hc, gg⟩
  clear hNn
  have hR3 := (dr_bx gg R2.out (show w.heap.size ≠ g by omega)).lt
  have SB := Lib.hid (show WSt w w.heap.size w3.heap.size g N A m c ps none 0 0 [] (w3.alloc (.cells #[.int .i64 N, .slice A m c] 61)) from
    ⟨(dr_bx gg R2.out (show w.heap.size ≠ g by omega)).alloc _, Bx.new w3 _ _, (ownsRow_base o3 (by omega)).alloc _, World.ownsRow_nil _ _ _ _, cur_alloc hc _, dr_alloc (dr_trans G2.out gg) _, ⟨hl, rfl, by omega⟩, hg, Nat.le_refl _, hR3⟩)
  clear hl o3 hc gg C2 R2 G2
  go_wp2_with fail
  refine (s_l11Right g n most _ SB.out.2.2.2.2.1 hn1 hn4 hm).mono ?_
  rintro e w4 ⟨N4, A4, q4, c4, g4, rfl, hl4, hq4, hN4, o4, hc, gg⟩
  have S4 := Lib.hid (SB.out.draw hc gg)
  have O4 := Lib.hid (RdG.own o4)
  have hL4 := Lib.hid hl4
  clear o4 hc gg SB hN4 hl4
  go_wp2_with fail
  rw [run_gates]
  go_wp2_with fail
  refine (s_DecomposeGates _ _ _ g4 _ O4.out (by omega)).mono ?_
  rintro e w5 ⟨A5, q, d, gs, rfl, hl5, ⟨hq5, hh5⟩, o5, b5⟩
  have S5 := Lib.hid ((S4.out.below b5).gates (ownsRow_base o5 (by have := S4.out.2.2.2.2.2.1.size; omega)) hl5)
  have hq : q ≤ 15 * most := by omega
  have hh : hN gs ≤ 2 * most := by omega
  have HHA := Lib.hid (show ∀ x : Gt, hN (gs ++ [x]) ≤ 2 * most + 1 from fun x => by rw [hN_app]; simp only [hN]; split <;> omega)
  clear O4 S4 o5 b5 hl5 hL4 hq5 hq4
  generalize hgE : w3.heap.size = E at S5 hR3 ⊢
  clear hgE
  go_wp2_with fail
  refine (s_l1Once g 12 _ S5.out.2.2.2.2.1 (by omega)).mono ?_
  rintro e w6 ⟨b6, rfl, hc, gg⟩
  have S6 := Lib.hid (S5.out.draw hc gg)
  clear hc gg S5
  cases b6
  · have ST := S6
    go_wp2_with fail
    refine (s_l1Once g 12 _ ST.out.2.2.2.2.1 (by omega)).mono ?_
    rintro e w8 ⟨b8, rfl, hc, gg⟩
    have S8 := Lib.hid (ST.out.draw hc gg)
    obtain ⟨x0, x1, x2, x3⟩ := S8.out.cells
    obtain ⟨r0, r1, r2, r3⟩ := S8.out.res
    clear hc gg
    cases b8
    · go_wp2_with fail
      go_region
      all_goals go_wp2_with fail
      all_goals exact bodyPost_ret (v := .tuple #[.slice A5 q d, .agg #[.int .i64 N, .slice A m c]]) (by simp [results, Try.results135, go_sem, r0, r1]) rfl (retW S8.out (by omega) (by omega)).drew
    · go_wp2_with fail
      refine (s_l9Bent g n _ S8.out.2.2.2.2.1 hn1 hn4).mono ?_
      rintro e w9 ⟨k9, a9, b9, c9, rfl, _, hc, gg⟩
      have S9 := Lib.hid (S8.out.draw hc gg)
      have hs9 := S9.out.2.2.2.2.2.1.size
      clear hc gg
      go_wp2_with (at_builtin; refine wpList_app rfl (.tmp 27) (.tmp 31) 41 rfl Try.underlying41 infoGate rfl (by decide) rfl (S9.out.2.2.2.1.alloc _) rfl (Rd.lit w9 55 #[.int .i64 k9, .int .i64 a9, .int .i64 b9, .int .i64 c9] 1 4 rfl) (by simp [Value.oneCell']) (by omega) (by decide) (by simp <;> omega) ?_; intro A10 c10 w10 o10 g10; have S10 := Lib.hid ((S9.out.alloc _).app (x := ⟨k9, a9, b9, c9⟩) o10 g10); have ⟨y0, y1, y2, y3⟩ := S10.out.cells; have ⟨z0, z1, z2, z3⟩ := S10.out.res)
      go_region
      all_goals go_wp2_with fail
      all_goals exact bodyPost_ret (v := .tuple #[.slice A10 (q + 1) c10, .agg #[.int .i64 N, .slice A m c]]) (by simp [results, Try.results135, go_sem, z0, z1]) rfl (retW S10.out (by omega) (HHA.out _)).drew
  · go_wp2_with fail
    refine (s_l36Bent g _ S6.out.2.2.2.2.1).mono ?_
    rintro e w7 ⟨N7, A7, m7, c7, p7, rfl, hl7, hm7, _, o7, hc, gg⟩
    have S7 := Lib.hid (S6.out.draw hc gg)
    have ST := Lib.hid (S7.out.graph (N' := N7) (ownsRow_base o7 S6.out.2.2.2.2.2.1.size) hl7 hm7)
    obtain ⟨u0, u1, u2, u3⟩ := S7.out.cells
    clear o7 hc gg
    go_wp2_with fail
    refine (s_l1Once g 12 _ ST.out.2.2.2.2.1 (by omega)).mono ?_
    rintro e w8 ⟨b8, rfl, hc, gg⟩
    have S8 := Lib.hid (ST.out.draw hc gg)
    obtain ⟨x0, x1, x2, x3⟩ := S8.out.cells
    obtain ⟨r0, r1, r2, r3⟩ := S8.out.res
    clear hc gg
    cases b8
    · go_wp2_with fail
      go_region
      all_goals go_wp2_with fail
      all_goals exact bodyPost_ret (v := .tuple #[.slice A5 q d, .agg #[.int .i64 N7, .slice A7 m7 c7]]) (by simp [results, Try.results135, go_sem, r0, r1]) rfl (retW S8.out (by omega) (by omega)).drew
    · go_wp2_with fail
      refine (s_l9Bent g n _ S8.out.2.2.2.2.1 hn1 hn4).mono ?_
      rintro e w9 ⟨k9, a9, b9, c9, rfl, _, hc, gg⟩
      have S9 := Lib.hid (S8.out.draw hc gg)
      have hs9 := S9.out.2.2.2.2.2.1.size
      clear hc gg
      go_wp2_with (at_builtin; refine wpList_app rfl (.tmp 27) (.tmp 31) 41 rfl Try.underlying41 infoGate rfl (by decide) rfl (S9.out.2.2.2.1.alloc _) rfl (Rd.lit w9 55 #[.int .i64 k9, .int .i64 a9, .int .i64 b9, .int .i64 c9] 1 4 rfl) (by simp [Value.oneCell']) (by omega) (by decide) (by simp <;> omega) ?_; intro A10 c10 w10 o10 g10; have S10 := Lib.hid ((S9.out.alloc _).app (x := ⟨k9, a9, b9, c9⟩) o10 g10); have ⟨y0, y1, y2, y3⟩ := S10.out.cells; have ⟨z0, z1, z2, z3⟩ := S10.out.res)
      go_region
      all_goals go_wp2_with fail
      all_goals exact bodyPost_ret (v := .tuple #[.slice A10 (q + 1) c10, .agg #[.int .i64 N7, .slice A7 m7 c7]]) (by simp [results, Try.results135, go_sem, z0, z1]) rfl (retW S10.out (by omega) (HHA.out _)).drew
/-- What l37Args comes to is read off: gates and a graph beside a new cursor. -/
def RetGG (w : World) (e : Ending) (w' : World) : Prop :=
  ∃ (G : Option Addr) (q d : Nat) (gs : List Gt) (N : Int) (A : Option Addr) (m c : Nat) (ps : List (Int × Int)), e = .returned (.tuple #[.slice G q d, .agg #[.int .i64 N, .slice A m c]]) ∧ gs.length = q ∧ (q ≤ 91 ∧ hN gs ≤ 13) ∧ ps.length = m ∧ m ≤ 17 ∧
    w'.ownsRow w.heap.size 55 4 (.slice G q d) q (cellsG gs) ∧ w'.ownsRow w.heap.size 167 2 (.slice A m c) m (cellsP ps) ∧ Below w.heap.size w w'

/-- A store into a graph's box leaves the cursor. -/
theorem Cur.far {w : World} {g R : Nat} {N : Int} {A : Option Addr} {m c : Nat} (h : Cur w g) (hb : Bx w R 61 #[.int .i64 N, .slice A m c]) (hne : R ≠ g) (i : Nat) (u : Value) : Cur (w.setCell ⟨R, i, none⟩ u) g := by
  obtain ⟨B, n, c', j, hh, zs, h1, h2, h3, h4, h5, h6, h7⟩ := h
  refine ⟨B, n, c', j, hh, zs, h1.far (fun e => hne e.symm) _, ⟨h2.1, Rd.setCell0 h2.2 _ fun hn b off e he => ?_⟩, h3, h4, h5, h6, h7⟩
  obtain ⟨b', off', x, e', _, _, c0⟩ := h2.at_ hn
  rw [e] at e'
  injection e' with e'
  injection e' with e1 e2
  subst e1 e2
  change b = R at he
  subst he
  rw [hb.cell] at c0
  match off, c0 with
  | 0, c0 => simp at c0
  | 1, c0 => simp at c0
  | k + 2, c0 => simp at c0
/-- The result's box, the graph's box, edges, gates, the cursor, all made by the call. -/
def LSt (w : World) (R E g : Nat) (r0 : Int) (rA : Option Addr) (rm rc : Nat) (N : Int) (A : Option Addr) (m c : Nat) (ps : List (Int × Int)) (G : Option Addr) (q d : Nat) (gs : List Gt) (wr : World) : Prop :=
  Bx wr R 61 #[.int .i64 r0, .slice rA rm rc] ∧ Bx wr E 61 #[.int .i64 N, .slice A m c] ∧ wr.ownsRow w.heap.size 167 2 (.slice A m c) m (cellsP ps) ∧ wr.ownsRow w.heap.size 55 4 (.slice G q d) q (cellsG gs) ∧ Cur wr g ∧ Below w.heap.size w wr ∧ (w.heap.size ≤ R ∧ w.heap.size ≤ E ∧ w.heap.size ≤ g ∧ R ≠ g ∧ E ≠ g ∧ R ≠ E)
section
variable {w : World} {R E g : Nat} {r0 : Int} {rA : Option Addr} {rm rc : Nat} {N : Int} {A : Option Addr} {m c : Nat} {ps : List (Int × Int)} {G : Option Addr} {q d : Nat} {gs : List Gt} {wr w' : World}
theorem LSt.draw (h : LSt w R E g r0 rA rm rc N A m c ps G q d gs wr) (hc : Cur w' g) (gg : wr.grownBy w' (some g)) : LSt w R E g r0 rA rm rc N A m c ps G q d gs w' := by
  obtain ⟨h1, h2, h3, h4, h5, h6, h7, h8, h9, h10, h11, h12⟩ := h
  exact ⟨dr_bx gg h1 h10, dr_bx gg h2 h11, dr_own gg h5 h3 (by decide), dr_own gg h5 h4 (by decide), hc, h6.trans (below_of_grown gg h6.size (fun k hk => (by injection hk with hk; omega))), h7, h8, h9, h10, h11, h12⟩
theorem LSt.drew (h : LSt w R E g r0 rA rm rc N A m c ps G q d gs wr) : LSt w R E g r0 rA rm rc N A m c ps G q d gs wr.drew := by
  obtain ⟨h1, h2, h3, h4, h5, h6, h7⟩ := h
  exact ⟨h1.drew, h2.drew, ownsRow_drew h3, ownsRow_drew h4, h5.below (Below.refl _ _).drew, h6.drew, h7⟩
theorem LSt.store (h : LSt w R E g r0 rA rm rc N A m c ps G q d gs wr) (r0' : Int) (rA' : Option Addr) (rm' rc' : Nat) : LSt w R E g r0' rA' rm' rc' N A m c ps G q d gs ((wr.setCell ⟨R, 0, none⟩ (.int .i64 r0')).setCell ⟨R, 1, none⟩ (.slice rA' rm' rc')) := by
  obtain ⟨h1, h2, h3, h4, h5, h6, h7, h8, h9, h10, h11, h12⟩ := h
  exact ⟨(h1.set_ 0 _).set_ 1 _, (h2.far (fun e => h12 e.symm) _).far (fun e => h12 e.symm) _, own_set2 h3 (own_bx_ne h3 h1 (by decide)), own_set2 h4 (own_bx_ne h4 h1 (by decide)), (h5.far h1 h10 0 _).far (h1.set_ 0 _) h10 1 _, (h6.setCell h7 _).setCell h7 _, h7, h8, h9, h10, h11, h12⟩
theorem LSt.cells (h : LSt w R E g r0 rA rm rc N A m c ps G q d gs wr) : wr.cell? ⟨E, 0, none⟩ = some (.int .i64 N) ∧ wr.cell? ⟨E, 1, none⟩ = some (.slice A m c) := ⟨h.2.1.cell 0, h.2.1.cell 1⟩
theorem LSt.res (h : LSt w R E g r0 rA rm rc N A m c ps G q d gs wr) : wr.cell? ⟨R, 0, none⟩ = some (.int .i64 r0) ∧ wr.cell? ⟨R, 1, none⟩ = some (.slice rA rm rc) ∧ wr.frozen? ⟨R, 0, none⟩ = false ∧ wr.frozen? ⟨R, 1, none⟩ = false := h.1.two
end
/-- Gates, a graph and a layout, drawn. -/
def RetLC (w : World) (e : Ending) (w' : World) : Prop :=
  ∃ (G : Option Addr) (q d : Nat) (gs : List Gt) (N : Int) (A : Option Addr) (m c : Nat) (ps : List (Int × Int)) (Z : Option Addr) (nz cz : Nat) (zs : List Int), e = .returned (.tuple #[.slice G q d, .agg #[.int .i64 N, .slice A m c], .slice Z nz cz]) ∧ gs.length = q ∧ (q ≤ 91 ∧ hN gs ≤ 13) ∧ ps.length = m ∧ m ≤ 17 ∧ zs.length = nz ∧ nz ≤ 5 ∧
    w'.ownsRow w.heap.size 55 4 (.slice G q d) q (cellsG gs) ∧ w'.ownsRow w.heap.size 167 2 (.slice A m c) m (cellsP ps) ∧ w'.ownsRow w.heap.size 3 1 (.slice Z nz cz) nz (cellsI zs) ∧ Below w.heap.size w w'
/-- What the drawn region leaves: the result's box stored, a layout of the call's own. -/
def DoneL (w : World) (R E g : Nat) (N : Int) (A : Option Addr) (m c : Nat) (ps : List (Int × Int)) (G : Option Addr) (q d : Nat) (gs : List Gt) (v : Value) (wx : World) : Prop :=
  ∃ (Z : Option Addr) (nz cz : Nat) (zs : List Int), v = .slice Z nz cz ∧ zs.length = nz ∧ nz ≤ 5 ∧ wx.ownsRow w.heap.size 3 1 (.slice Z nz cz) nz (cellsI zs) ∧ LSt w R E g N A m c N A m c ps G q d gs wx
set_option maxRecDepth 100000 in
set_option maxHeartbeats 3200000 in
theorem s_DrawLC (A : Option Addr) (n cap : Nat) (zs : List Int) (w : World) (h : RdB w A n zs) (hz : ∀ z ∈ zs, 0 ≤ z ∧ z ≤ 255) (hn : n ≤ 1048576) :
    Calls Try.prog 88 #[.slice A n cap] w (RetLC w) := by
  have H := Lib.hid (show RdB (w.alloc (.cells #[.int .i64 0, .slice none 0 0] 61)) A n zs from ⟨h.1, h.2.alloc _⟩)
  have HZ := Lib.hid hz
  have R0 := Lib.hid (Bx.new w 61 #[.int .i64 0, .slice none 0 0])
  clear h hz
  go_enter Try.func88, Try.ntmps88
  go_wp2_with fail
  refine (s_l1New _ _ _ _ _ H.out HZ.out hn).mono ?_
  rintro e w1 ⟨g, rfl, hc1, hg, b1⟩
  have hg1 : w.heap.size + 1 ≤ g := by simpa using hg
  go_wp2_with fail
  refine (s_l37Args g 6 _ hc1 (by omega)).mono ?_
  rintro e w2 ⟨G, q, d, gs, N, B, m, c, ps, rfl, hl, ⟨hq, hh⟩, hl2, hm, og, oe, hc2, g2⟩
  have B1 := below_alloc b1
  have hs1 := B1.size
  have hgw := hc2.lt
  have hR2 := dr_bx g2 (R0.out.below b1) (show w.heap.size ≠ g by omega)
  have S2 := Lib.hid (show LSt w w.heap.size w2.heap.size g 0 none 0 0 N B m c ps G q d gs (w2.alloc (.cells #[.int .i64 N, .slice B m c] 61)) from
    ⟨hR2.alloc _, Bx.new w2 _ _, (ownsRow_base oe hs1).alloc _, (ownsRow_base og hs1).alloc _, cur_alloc hc2 _, (B1.trans (below_of_grown g2 hs1 (fun k hk => (by injection hk with hk; omega)))).alloc (by have := hR2.lt; omega) _, Nat.le_refl _, by have := hR2.lt; omega, by omega, by omega, by omega, by have := hR2.lt; omega⟩)
  have hRlt := hR2.lt
  clear og oe hc1 hc2 g2 B1 b1 R0 hR2 hgw hs1 hg
  obtain ⟨x0, x1⟩ := S2.out.cells
  obtain ⟨K, hK⟩ : ∃ K, inB N 1 4 = K := ⟨_, rfl⟩
  have HK := Lib.hid hK
  go_wp2_with fail
  refine (s_in _ _ _ _).mono ?_
  rintro e w3 ⟨rfl, rfl⟩
  rw [HK.out]
  cases K
  · go_wp2_with fail
    go_upto_region 5 with fail
    go_cut [2, 4] (fun v2 v4 wx => v2 = .slice G q d ∧ DoneL w w.heap.size w2.heap.size g N B m c ps G q d gs v4 wx)
    case first =>
      have L0 := Lib.hid (S2.out.drew)
      have L1 := Lib.hid (L0.out.store N B m c)
      have CL0 := Lib.hid L0.out.2.2.2.2.1
      have CL1 := Lib.hid L1.out.2.2.2.2.1
      obtain ⟨y0, y1, y2, y3⟩ := L0.out.res
      obtain ⟨z0, z1⟩ := L0.out.cells
      go_region_law (first
        | (go_simp; go_at_call 137; (with_reducible refine (s_l8Bent g _ CL1.out).mono ?_); rintro e w5 ⟨Z, nz, cz, zs, rfl, hz1, ⟨hz2, _⟩, oz, hc5, g5⟩; have M1 := L1.out.draw hc5 g5; have O1 := ownsRow_base oz L1.out.2.2.2.2.2.1.size)
        | (go_simp; go_at_call 137; (with_reducible refine (s_l8Bent g _ CL0.out).mono ?_); rintro e w5 ⟨Z, nz, cz, zs, rfl, hz1, ⟨hz2, _⟩, oz, hc5, g5⟩; have M0 := L0.out.draw hc5 g5; have O0 := ownsRow_base oz L0.out.2.2.2.2.2.1.size; have ⟨u0, u1, u2, u3⟩ := M0.res; have ⟨v0, v1⟩ := M0.cells)
        | fail)
      all_goals go_wp2_with fail
      all_goals go_meet
      all_goals first
        | exact ⟨rfl, Z, nz, cz, zs, rfl, hz1, by omega, O1, M1⟩
        | exact ⟨rfl, Z, nz, cz, zs, rfl, hz1, by omega, own_set2 O0 (own_bx_ne O0 M0.1 (by decide)), M0.store N B m c⟩
    case rest =>
      obtain ⟨rfl, Z, nz, cz, zs, rfl, hz1, hz5, oz, hL⟩ := hcut
      have HL5 := Lib.hid hL
      have OZ := Lib.hid oz
      clear oz hL
      obtain ⟨r0, r1, r2, r3⟩ := HL5.out.res
      go_wp2_with fail
      exact bodyPost_ret (v := .tuple #[.slice G q d, .agg #[.int .i64 N, .slice B m c], .slice Z nz cz]) (by simp [results, Try.results88, go_sem, r0, r1]) rfl ⟨G, q, d, gs, N, B, m, c, ps, Z, nz, cz, zs, rfl, hl, ⟨by omega, by omega⟩, hl2, hm, hz1, hz5, HL5.out.2.2.2.1, HL5.out.2.2.1, OZ.out, HL5.out.2.2.2.2.2.1⟩
  · go_wp2_with fail
    refine (s_l1Once g 8 _ S2.out.2.2.2.2.1 (by omega)).mono ?_
    rintro e w4 ⟨b4, rfl, hc, gg⟩
    have S4 := Lib.hid (S2.out.draw hc gg)
    clear hc gg x0 x1
    have hNb : 1 ≤ N ∧ N ≤ 4 := by
      rcases inB_casesQ N 1 4 with ⟨_, h1⟩ | ⟨h1, _⟩
      · exact h1
      · rw [HK.out] at h1; cases h1
    clear hK HK
    obtain ⟨Nn, rfl⟩ : ∃ Nn : Nat, N = Nn := ⟨N.toNat, by omega⟩
    cases b4
    · go_wp2_with fail
      go_upto_region 4 with fail
      go_cut [2, 4] (fun v2 v4 wx => v2 = .slice G q d ∧ DoneL w w.heap.size w2.heap.size g Nn B m c ps G q d gs v4 wx)
      case first =>
        have L0 := Lib.hid (S4.out.drew)
        have L1 := Lib.hid (L0.out.store Nn B m c)
        have CL0 := Lib.hid L0.out.2.2.2.2.1
        have CL1 := Lib.hid L1.out.2.2.2.2.1
        obtain ⟨y0, y1, y2, y3⟩ := L0.out.res
        obtain ⟨z0, z1⟩ := L0.out.cells
        go_region_law (first
          | (go_simp; go_at_call 136; (with_reducible refine (s_l8Perm g Nn _ CL1.out (by omega) (by omega)).mono ?_); rintro e w5 ⟨Z, nz, cz, zs, rfl, hz1, ⟨hz2, _⟩, oz, hc5, g5⟩; have M1 := L1.out.draw hc5 g5; have O1 := ownsRow_base oz L1.out.2.2.2.2.2.1.size)
          | (go_simp; go_at_call 136; (with_reducible refine (s_l8Perm g Nn _ CL0.out (by omega) (by omega)).mono ?_); rintro e w5 ⟨Z, nz, cz, zs, rfl, hz1, ⟨hz2, _⟩, oz, hc5, g5⟩; have M0 := L0.out.draw hc5 g5; have O0 := ownsRow_base oz L0.out.2.2.2.2.2.1.size; have ⟨u0, u1, u2, u3⟩ := M0.res; have ⟨v0, v1⟩ := M0.cells)
          | fail)
        all_goals go_wp2_with fail
        all_goals go_meet
        all_goals first
          | exact ⟨rfl, Z, nz, cz, zs, rfl, hz1, by omega, O1, M1⟩
          | exact ⟨rfl, Z, nz, cz, zs, rfl, hz1, by omega, own_set2 O0 (own_bx_ne O0 M0.1 (by decide)), M0.store Nn B m c⟩
      case rest =>
        obtain ⟨rfl, Z, nz, cz, zs, rfl, hz1, hz5, oz, hL⟩ := hcut
        have HL5 := Lib.hid hL
        have OZ := Lib.hid oz
        clear oz hL
        obtain ⟨r0, r1, r2, r3⟩ := HL5.out.res
        go_wp2_with fail
        exact bodyPost_ret (v := .tuple #[.slice G q d, .agg #[.int .i64 Nn, .slice B m c], .slice Z nz cz]) (by simp [results, Try.results88, go_sem, r0, r1]) rfl ⟨G, q, d, gs, (Nn : Int), B, m, c, ps, Z, nz, cz, zs, rfl, hl, ⟨by omega, by omega⟩, hl2, hm, hz1, hz5, HL5.out.2.2.2.1, HL5.out.2.2.1, OZ.out, HL5.out.2.2.2.2.2.1⟩
    · go_wp2_with fail
      go_upto_region 5 with fail
      go_cut [2, 4] (fun v2 v4 wx => v2 = .slice G q d ∧ DoneL w w.heap.size w2.heap.size g Nn B m c ps G q d gs v4 wx)
      case first =>
        have L0 := Lib.hid (S4.out.drew)
        have L1 := Lib.hid (L0.out.store Nn B m c)
        have CL0 := Lib.hid L0.out.2.2.2.2.1
        have CL1 := Lib.hid L1.out.2.2.2.2.1
        obtain ⟨y0, y1, y2, y3⟩ := L0.out.res
        obtain ⟨z0, z1⟩ := L0.out.cells
        go_region_law (first
          | (go_simp; go_at_call 137; (with_reducible refine (s_l8Bent g _ CL1.out).mono ?_); rintro e w5 ⟨Z, nz, cz, zs, rfl, hz1, ⟨hz2, _⟩, oz, hc5, g5⟩; have M1 := L1.out.draw hc5 g5; have O1 := ownsRow_base oz L1.out.2.2.2.2.2.1.size)
          | (go_simp; go_at_call 137; (with_reducible refine (s_l8Bent g _ CL0.out).mono ?_); rintro e w5 ⟨Z, nz, cz, zs, rfl, hz1, ⟨hz2, _⟩, oz, hc5, g5⟩; have M0 := L0.out.draw hc5 g5; have O0 := ownsRow_base oz L0.out.2.2.2.2.2.1.size; have ⟨u0, u1, u2, u3⟩ := M0.res; have ⟨v0, v1⟩ := M0.cells)
          | fail)
        all_goals go_wp2_with fail
        all_goals go_meet
        all_goals first
          | exact ⟨rfl, Z, nz, cz, zs, rfl, hz1, by omega, O1, M1⟩
          | exact ⟨rfl, Z, nz, cz, zs, rfl, hz1, by omega, own_set2 O0 (own_bx_ne O0 M0.1 (by decide)), M0.store Nn B m c⟩
      case rest =>
        obtain ⟨rfl, Z, nz, cz, zs, rfl, hz1, hz5, oz, hL⟩ := hcut
        have HL5 := Lib.hid hL
        have OZ := Lib.hid oz
        clear oz hL
        obtain ⟨r0, r1, r2, r3⟩ := HL5.out.res
        go_wp2_with fail
        exact bodyPost_ret (v := .tuple #[.slice G q d, .agg #[.int .i64 Nn, .slice B m c], .slice Z nz cz]) (by simp [results, Try.results88, go_sem, r0, r1]) rfl ⟨G, q, d, gs, (Nn : Int), B, m, c, ps, Z, nz, cz, zs, rfl, hl, ⟨by omega, by omega⟩, hl2, hm, hz1, hz5, HL5.out.2.2.2.1, HL5.out.2.2.1, OZ.out, HL5.out.2.2.2.2.2.1⟩
set_option maxHeartbeats 1600000 in
theorem s_DrawRG (A : Option Addr) (n cap : Nat) (zs : List Int) (w : World) (h : RdB w A n zs) (hz : ∀ z ∈ zs, 0 ≤ z ∧ z ≤ 255) (hn : n ≤ 1048576) :
    Calls Try.prog 33 #[.slice A n cap] w (RetLC w) := by
  have H := Lib.hid (show RdB (w.alloc (.cells #[.int .i64 0, .slice none 0 0] 61)) A n zs from ⟨h.1, h.2.alloc _⟩)
  have HZ := Lib.hid hz
  have R0 := Lib.hid (Bx.new w 61 #[.int .i64 0, .slice none 0 0])
  clear h hz
  go_enter Try.func33, Try.ntmps33
  go_wp2_with fail
  refine (s_DrawLC _ _ _ _ _ H.out HZ.out hn).mono ?_
  rintro e w2 ⟨G, q, d, gs, N, B, m, c, ps, Z, nz, cz, ys, rfl, hl, hq, hl2, hm, hlz, hnz, og, oe, oz, b2⟩
  have B1 := below_alloc b2
  have hsw : w.heap.size ≤ (w.alloc (.cells #[.int .i64 0, .slice none 0 0] 61)).heap.size := by simp
  have R2 := Lib.hid (R0.out.below b2)
  have OG := Lib.hid (ownsRow_base og hsw)
  have OE := Lib.hid (ownsRow_base oe hsw)
  have OZ := Lib.hid (ownsRow_base oz hsw)
  have bw := Lib.hid B1
  clear og oe oz B1 b2 R0 hsw
  obtain ⟨q0, q1, f0, f1⟩ := R2.out.two
  have l4 := R2.out.lt
  go_wp2_with fail
  exact bodyPost_ret (v := .tuple #[.slice G q d, .agg #[.int .i64 N, .slice B m c], .slice Z nz cz]) (by simp [results, Try.results33, go_sem, q0, q1]) rfl ⟨G, q, d, gs, N, B, m, c, ps, Z, nz, cz, ys, rfl, hl, hq, hl2, hm, hlz, hnz, own_set2 OG.out (own_bx_ne OG.out R2.out (by decide)), own_set2 OE.out (own_bx_ne OE.out R2.out (by decide)), own_set2 OZ.out (own_bx_ne OZ.out R2.out (by decide)), (bw.out.setCell (Nat.le_refl _) _).setCell (Nat.le_refl _) _⟩
end Go.Proofs.Ytibhikngiceeeaa
namespace Go.Proofs.Ytibhikngiceeeaa
open Go.RowKit

/-- What a function that hands back new gates, new numbers and a bool comes to. -/
def RetGIB (gs : List Gt) (zs : List Int) (b : Bool) (w : World) (e : Ending) (w' : World) : Prop :=
  ∃ (A : Option Addr) (c : Nat) (A' : Option Addr) (c' : Nat), e = .returned (.tuple #[.slice A gs.length c, .slice A' zs.length c', .bool b]) ∧ w'.ownsRow w.heap.size 55 4 (.slice A gs.length c) gs.length (cellsG gs) ∧ w'.ownsRow w.heap.size 3 1 (.slice A' zs.length c') zs.length (cellsI zs) ∧ Below w.heap.size w w'
theorem retGIB {r : List Gt × List Int × Bool} {gs : List Gt} {zs : List Int} {b : Bool} {w w' : World} {A A' : Option Addr} {n n' c c' : Nat} (hr : r = (gs, zs, b)) (hn : gs.length = n) (hn' : zs.length = n') (h1 : w'.ownsRow w.heap.size 55 4 (.slice A n c) n (cellsG gs)) (h2 : w'.ownsRow w.heap.size 3 1 (.slice A' n' c') n' (cellsI zs)) (hB : Below w.heap.size w w') :
    RetGIB r.1 r.2.1 r.2.2 w (.returned (.tuple #[.slice A n c, .slice A' n' c', .bool b])) w' := by
  subst hr hn hn'
  exact ⟨A, c, A', c', rfl, h1, h2, hB⟩
def OneBx (w : World) (N : Int) (B : Option Addr) (m d : Nat) (wx : World) : Prop := Bx wx w.heap.size 61 #[.int .i64 N, .slice B m d] ∧ Below w.heap.size w wx
theorem OneBx.below {w wx w' : World} {N : Int} {B : Option Addr} {m d : Nat} (h : OneBx w N B m d wx) (hb : Below wx.heap.size wx w') : OneBx w N B m d w' := ⟨h.1.below hb, below_trans h.2 hb⟩
theorem OneBx.drew {w wx : World} {N : Int} {B : Option Addr} {m d : Nat} (h : OneBx w N B m d wx) : OneBx w N B m d wx.drew := ⟨h.1, h.2.drew⟩
theorem OneBx.grown {w wx w' : World} {N : Int} {B : Option Addr} {m d : Nat} (h : OneBx w N B m d wx) {base e sz n : Nat} {v : Value} {xs : List Value} (ho : wx.ownsRow base e sz v n xs) (hg : wx.grownBy w' v.ownBlock) (h2 : e ≠ 61) (hb : w.heap.size ≤ base) : OneBx w N B m d w' :=
  ⟨h.1.grown hg (own_bx_ne ho h.1 h2), below_grown h.2 h.2.size ho hb hg⟩
theorem OneBx.cells {w wx : World} {N : Int} {B : Option Addr} {m d : Nat} (h : OneBx w N B m d wx) : wx.cell? ⟨w.heap.size, 0, none⟩ = some (.int .i64 N) ∧ wx.cell? ⟨w.heap.size, 1, none⟩ = some (.slice B m d) := ⟨h.1.cell 0, h.1.cell 1⟩
theorem rtsL_step {ps : List (Int × Int)} {N : Int} {gs : List Gt} {z : List Int} {acc : List Gt} {k : Nat} {g : Gt} (hd : gs.drop k = g :: gs.drop (k + 1)) (h : mayR ps N z g = true) : rtsL ps N (gs.drop k) z acc = rtsL ps N (gs.drop (k + 1)) (routeG ps N z g).2 (acc ++ (routeG ps N z g).1) := by rw [hd, rtsL, if_pos h]
theorem rtsL_no {ps : List (Int × Int)} {N : Int} {gs : List Gt} {z : List Int} {acc : List Gt} {k : Nat} {g : Gt} (hd : gs.drop k = g :: gs.drop (k + 1)) (h : mayR ps N z g = false) : rtsL ps N (gs.drop k) z acc = ([], [], false) := by rw [hd, rtsL, if_neg (by rw [h]; simp)]
theorem routeG_rowN {ps : List (Int × Int)} {N : Int} {z : List Int} {g : Gt} {n : Nat} (h : isLay ps N z = true) (hn : z.length = n) : (routeG ps N z g).2.length = n := by
  have h1 := isLay_len (routeG_lay (g := g) h)
  have h2 := isLay_len h
  omega
theorem routeGs_yes {ps : List (Int × Int)} {N : Int} {zs : List Int} {gs : List Gt} (h : isLay ps N zs = true) : routeGs ps N zs gs = rtsL ps N gs zs [] := by unfold routeGs; rw [if_pos h]
theorem routeGs_no {ps : List (Int × Int)} {N : Int} {zs : List Int} {gs : List Gt} (h : isLay ps N zs = false) : routeGs ps N zs gs = ([], [], false) := by unfold routeGs; rw [if_neg (by rw [h]; simp)]

set_option maxRecDepth 100000 in
set_option maxHeartbeats 6400000 in
theorem i_RouteGates (A : Option Addr) (n cap : Nat) (gs : List Gt) (N : Int) (B : Option Addr) (m d : Nat) (ps : List (Int × Int)) (Z : Option Addr) (nz cz : Nat) (zs : List Int) (w : World) (h : RdG w A n gs) (hng : n ≤ 1048576) (hp : RdP w B m ps) (hm : m ≤ 1099511627776) (hz : RdI w Z nz zs) (hn : nz ≤ 1048576) :
    Calls Try.prog 34 #[.slice A n cap, .agg #[.int .i64 N, .slice B m d], .slice Z nz cz] w (RetGIB (routeGs ps N zs gs).1 (routeGs ps N zs gs).2.1 (routeGs ps N zs gs).2.2 w) := by
  have H := Lib.hid h
  have HP := Lib.hid hp
  have HZ := Lib.hid hz
  have HZL := Lib.hid hz.1
  clear h hp hz
  obtain ⟨R, hR⟩ : ∃ R, routeGs ps N zs gs = R := ⟨_, rfl⟩
  have HRR := Lib.hid hR
  have T0 := Lib.hid (show OneBx w N B m d (w.alloc (.cells #[.int .i64 N, .slice B m d] 61)) from ⟨Bx.new w _ _, (Below.refl _ _).alloc (Nat.le_refl _) _⟩)
  go_enter Try.func34, Try.ntmps34
  go_wp2_with fail
  refine (i_isLayout N _ _ _ ps _ _ _ zs _ (HP.out.below T0.out.2) hm (HZ.out.below T0.out.2) (by omega)).mono ?_
  rintro e w1 ⟨rfl, b1⟩
  have T1 := Lib.hid (T0.out.below b1)
  clear b1 T0
  cases hly : isLay ps N zs
  · have HN := Lib.hid (routeGs_no (gs := gs) hly)
    clear hly
    go_wp2_with fail
    go_ret3
    exact retGIB HN.out rfl rfl (World.ownsRow_nil _ _ _ _) (World.ownsRow_nil _ _ _ _) T1.out.2
  · have HLAY := Lib.hid hly
    have HRL : Hid (rtsL ps N gs zs [] = R) := Lib.hid (by rw [← hR, routeGs_yes hly])
    clear hly hR
    have OL := Lib.hid (show (w1.alloc (.cells #[] 3)).ownsRow w.heap.size 3 1 (.slice (some ⟨w1.heap.size, 0, none⟩) 0 0) 0 [] from World.ownsRow_lit w1 #[] 0 T1.out.2.size (by simp [maxLen]) rfl)
    have TL := Lib.hid (T1.out.below ((Below.refl _ _).alloc (Nat.le_refl _) (.cells #[] 3)))
    have hs1 := T1.out.2.size
    go_wp2_with (at_builtin; refine wpList_app0 rfl (.tmp 19) (.tmp 20) 62 rfl Try.underlying62 infoInt1 rfl (by decide) rfl OL.out rfl (HZ.out.below TL.out.2).2 one_cellsI (by omega) (by decide) (by simp <;> omega) ?_; intro A2 c2 w2 o2 g2)
    have T2' := TL.out.grown OL.out g2 (by decide) (Nat.le_refl _)
    have hs2 := T2'.2.size
    have T2 := Lib.hid (T2'.below ((Below.refl _ _).alloc (Nat.le_refl _) (.cells #[] 55)))
    have O2 := Lib.hid (o2.alloc (.cells #[] 55))
    have G2 := Lib.hid (show (w2.alloc (.cells #[] 55)).ownsRow w.heap.size 55 4 (.slice (some ⟨w2.heap.size, 0, none⟩) 0 0) 0 (cellsG []) from World.ownsRow_lit w2 #[] 0 hs2 (by simp [maxLen]) rfl)
    clear T1 OL TL hs1 o2 g2 T2' hs2
    go_loopg [9, 10, 25] n (fun r z o i wr => ∃ (k : Nat) (zl : List Int) (ol : List Gt) (Az : Option Addr) (cz' : Nat) (Ao : Option Addr) (no co : Nat), k + r = n ∧ i = .int .i64 k ∧ z = .slice Az nz cz' ∧ o = .slice Ao no co ∧ ol.length = no ∧ no ≤ 4 * k ∧ zl.length = nz ∧ isLay ps N zl = true ∧ rtsL ps N (gs.drop k) zl ol = R ∧ wr.ownsRow w.heap.size 3 1 (.slice Az nz cz') nz (cellsI zl) ∧ wr.ownsRow w.heap.size 55 4 (.slice Ao no co) no (cellsG ol) ∧ OneBx w N B m d wr)
    case atStart => exact ⟨0, zs, [], _, _, _, 0, 0, by omega, rfl, rfl, rfl, rfl, by omega, HZL.out, HLAY.out, HRL.out, O2.out, G2.out, T2.out⟩
    case round =>
      clear T2 O2 G2 HRL HLAY
      obtain ⟨k, zl, ol, Az, cz', Ao, no, co, hk, rfl, rfl, rfl, hol, hno, hzl, hly, hq, oz, oo, tt⟩ := hrel
      have HOL := Lib.hid hol
      have HZL2 := Lib.hid hzl
      have HLAY := Lib.hid hly
      have HQ := Lib.hid hq
      have OZ := Lib.hid oz
      have OO := Lib.hid oo
      have TT := Lib.hid tt
      clear hol hzl hly hq oz oo tt
      have hs0 := TT.out.2.size
      by_cases hlt : k < n
      · obtain ⟨bg, fg, gt, hA, hBg, hd, q0, q1, q2, q3⟩ := (H.out.below TT.out.2).at_ hlt
        subst hA
        have HD := Lib.hid hd
        clear hd
        have hi0 : (0 : Int) ≤ (k : Int) := by omega
        have hi1 : (k : Int) < (n : Int) := by omega
        obtain ⟨p0, p1⟩ := TT.out.cells
        have hsl : w.heap.size < wr.heap.size := TT.out.1.lt
        go_wp2_with fail
        clear hsl
        have TA := Lib.hid (TT.out.below ((Below.refl _ _).alloc (Nat.le_refl _) (.cells #[.int .i64 gt.k, .int .i64 gt.a, .int .i64 gt.b, .int .i64 gt.c] 55)))
        have ZA := Lib.hid (OZ.out.alloc (.cells #[.int .i64 gt.k, .int .i64 gt.a, .int .i64 gt.b, .int .i64 gt.c] 55))
        have OA := Lib.hid (OO.out.alloc (.cells #[.int .i64 gt.k, .int .i64 gt.a, .int .i64 gt.b, .int .i64 gt.c] 55))
        have XA := Lib.hid (Bx.new wr 55 #[.int .i64 gt.k, .int .i64 gt.a, .int .i64 gt.b, .int .i64 gt.c])
        refine (i_mayRoute gt N B m d ps _ nz _ zl _ (HP.out.below TA.out.2) hm (RdI.own ZA.out) (by omega)).mono ?_
        rintro e w3 ⟨rfl, b3⟩
        have X3 := Lib.hid (XA.out.below b3)
        have T3 := Lib.hid (TA.out.below b3)
        have Z3 := Lib.hid (ownsRow_below ZA.out b3)
        have O3 := Lib.hid (ownsRow_below OA.out b3)
        have hs3 := T3.out.2.size
        clear p0 p1 q0 q1 q2 q3 b3 TA ZA OA TT OZ OO hs0 XA
        cases hmay : mayR ps N zl gt
        · have HN := Lib.hid (show R = ([], [], false) from by rw [← HQ.out, rtsL_no HD.out hmay])
          clear hmay
          go_wp2_with fail
          go_ret3
          have hs3' : w.heap.size ≤ (w3.alloc (.cells #[] 55)).heap.size := Nat.le_trans hs3 (by simp)
          exact retGIB (HRR.out.trans HN.out) rfl rfl (World.ownsRow_nil _ _ _ _) (World.ownsRow_nil _ _ _ _) T3.out.2
        · have HST := Lib.hid (show rtsL ps N (gs.drop (k + 1)) (routeG ps N zl gt).2 (ol ++ (routeG ps N zl gt).1) = R from by rw [← HQ.out, rtsL_step HD.out hmay])
          have HL2 := Lib.hid (routeG_lay (g := gt) HLAY.out)
          have hl1 := routeG_len ps N zl gt
          have hl2 := routeG_rowN (g := gt) HLAY.out HZL2.out
          obtain ⟨L1, e1⟩ : ∃ L, (routeG ps N zl gt).1 = L := ⟨_, rfl⟩
          obtain ⟨L2, e2⟩ : ∃ L, (routeG ps N zl gt).2 = L := ⟨_, rfl⟩
          rw [e1] at hl1 HST
          rw [e2] at hl2 HST HL2
          obtain ⟨q, hq⟩ : ∃ q, L1.length = q := ⟨_, rfl⟩
          rw [hq] at hl1
          have E1 := Lib.hid e1
          have E2 := Lib.hid e2
          have HQ1 := Lib.hid hq
          have HLL := Lib.hid hl2
          clear e1 e2 hq hl2 hmay
          obtain ⟨p0, p1⟩ := T3.out.cells
          obtain ⟨q0, q1, q2, q3, _, _, _, _⟩ := X3.out.four
          go_wp2_with fail
          refine (i_RouteGate gt N B m d ps _ nz _ zl _ (HP.out.below T3.out.2) hm (RdI.own Z3.out) hn).mono ?_
          rintro e w4 ⟨A4, c4, A5, c5, rfl, o4, o5, b4⟩
          rw [E1.out] at o4 ⊢
          rw [E2.out] at o5 ⊢
          rw [HQ1.out] at o4 ⊢
          rw [HLL.out] at o5 ⊢
          have T4 := Lib.hid (T3.out.below b4)
          have O4 := Lib.hid (ownsRow_below O3.out b4)
          have S4 := Lib.hid o4
          have Z4 := Lib.hid (ownsRow_base o5 hs3)
          have hs4 := T4.out.2.size
          clear p0 p1 q0 q1 q2 q3 o4 o5 b4 T3 O3 Z3 X3
          go_wp2_with (at_builtin; refine wpList_app rfl (.tmp 41) (.tmp 42) 41 rfl Try.underlying41 infoGate rfl (by decide) rfl O4.out rfl (Rd.own S4.out) one_cellsG (by omega) (by decide) hs4 ?_; intro A6 c6 w6 o6 g6)
          go_roundg (gk - 1)
          case measure => omega
          case rel =>
            refine ⟨k + 1, L2, ol ++ L1, A5, c5, A6, no + q, c6, by omega, by go_num, rfl, rfl, by rw [List.length_append, HOL.out, HQ1.out], by omega, HLL.out, HL2.out, HST.out, Z4.out.kept g6 (own_types Z4.out O4.out (by decide)), by rw [cellsG_append]; exact o6, T4.out.grown O4.out g6 (by decide) (Nat.le_refl _)⟩
      · go_wp2_with fail
        go_ret3
        have hend : R = (ol, zl, true) := by rw [← HQ.out, List.drop_eq_nil_of_le (by have := H.out.1; omega), rtsL]
        exact retGIB (HRR.out.trans hend) HOL.out HZL2.out OO.out OZ.out TT.out.2

set_option maxRecDepth 100000 in
set_option maxHeartbeats 6400000 in
theorem s_RouteGates (A : Option Addr) (n cap : Nat) (gs : List Gt) (N : Int) (B : Option Addr) (m d : Nat) (ps : List (Int × Int)) (Z : Option Addr) (nz cz : Nat) (zs : List Int) (w : World) (h : RdG w A n gs) (hng : n ≤ 1048576) (hp : RdP w B m ps) (hm : m ≤ 1099511627776) (hz : RdI w Z nz zs) (hzc : nz ≤ cz) (hn : nz ≤ 1048576) :
    Calls Try.prog 35 #[.slice A n cap, .agg #[.int .i64 N, .slice B m d], .slice Z nz cz] w (RetGIB (routeGs ps N zs gs).1 (routeGs ps N zs gs).2.1 (routeGs ps N zs gs).2.2 w) := by
  have H := Lib.hid h
  have HP := Lib.hid hp
  have HZ := Lib.hid hz
  have HZL := Lib.hid hz.1
  have HL : Hid (isLay ps N zs = (valid ps N && (isPerm zs && ((nz : Int) == N)))) := Lib.hid (by rw [isLay_alt, hz.1])
  clear h hp hz
  obtain ⟨R, hR⟩ : ∃ R, routeGs ps N zs gs = R := ⟨_, rfl⟩
  have HRR := Lib.hid hR
  have T0 := Lib.hid (show OneBx w N B m d (w.alloc (.cells #[.int .i64 N, .slice B m d] 61)) from ⟨Bx.new w _ _, (Below.refl _ _).alloc (Nat.le_refl _) _⟩)
  have G0 := Lib.hid (show (((w.alloc (.cells #[.int .i64 N, .slice B m d] 61)).alloc (.cells #[] 55)).alloc (.cells #[] 3)).ownsRow w.heap.size 55 4 (.slice (some ⟨w.heap.size + 1, 0, none⟩) 0 0) 0 (cellsG []) from by have := (World.ownsRow_lit (e := 55) (size := 4) (base := w.heap.size) (w.alloc (.cells #[.int .i64 N, .slice B m d] 61)) #[] 0 (by simp) (by simp [maxLen]) rfl).alloc (.cells #[] 3); rw [World.size_alloc] at this; exact this)
  have OL := Lib.hid (show (((w.alloc (.cells #[.int .i64 N, .slice B m d] 61)).alloc (.cells #[] 55)).alloc (.cells #[] 3)).ownsRow w.heap.size 3 1 (.slice (some ⟨w.heap.size + 1 + 1, 0, none⟩) 0 0) 0 [] from by have := World.ownsRow_lit (e := 3) (size := 1) (base := w.heap.size) ((w.alloc (.cells #[.int .i64 N, .slice B m d] 61)).alloc (.cells #[] 55)) #[] 0 (by simp; omega) (by simp [maxLen]) rfl; rw [World.size_alloc, World.size_alloc] at this; exact this)
  have TL := Lib.hid (T0.out.below (((Below.refl _ _).alloc (Nat.le_refl _) (.cells #[] 55)).alloc (by simp) (.cells #[] 3)))
  go_enter Try.func35, Try.ntmps35
  go_wp2_with (at_builtin; refine wpList_app0 rfl (.tmp 15) (.tmp 16) 62 rfl Try.underlying62 infoInt1 rfl (by decide) rfl OL.out rfl (HZ.out.below TL.out.2).2 one_cellsI (by omega) (by decide) (by simp <;> omega) ?_; intro A2 c2 w2 o2 g2; have T2 := Lib.hid (TL.out.grown OL.out g2 (by decide) (Nat.le_refl _)); have ⟨p0, p1⟩ := T2.out.cells)
  have O2 := Lib.hid o2
  have G2 := Lib.hid (G0.out.kept g2 (own_types G0.out OL.out (by decide)))
  clear o2 g2 G0 OL TL T0
  refine (s_IsValidGraph N _ _ _ ps _ (HP.out.below T2.out.2) hm).mono ?_
  rintro e w3 ⟨rfl, b3⟩
  have T3 := Lib.hid (T2.out.below b3)
  have O3 := Lib.hid (ownsRow_below O2.out b3)
  have G3 := Lib.hid (ownsRow_below G2.out b3)
  clear T2 O2 G2 b3 p0 p1
  cases h3 : valid ps N
  · have H3 := Lib.hid h3
    clear h3
    go_wp2_with fail
    go_ret3
    have hsz := T3.out.2.size
    exact retGIB (routeGs_no (by rw [HL.out, H3.out, Bool.false_and])) rfl rfl (G3.out.alloc _) (World.ownsRow_lit (e := 3) (size := 1) _ #[] 0 hsz (by simp [maxLen]) rfl) (T3.out.2.alloc hsz _)
  · have H3 := Lib.hid h3
    clear h3
    go_wp2_with fail
    refine (s_IsPermutation _ _ _ zs _ (HZ.out.below T3.out.2) hzc (by omega)).mono ?_
    rintro e w4 ⟨rfl, b4⟩
    have T4 := Lib.hid (T3.out.below b4)
    have O4 := Lib.hid (ownsRow_below O3.out b4)
    have G4 := Lib.hid (ownsRow_below G3.out b4)
    clear T3 O3 G3 b4
    cases h4 : isPerm zs
    · have H4 := Lib.hid h4
      clear h4
      go_wp2_with fail
      go_ret3
      have hsz := T4.out.2.size
      exact retGIB (routeGs_no (by rw [HL.out, H4.out, Bool.false_and, Bool.and_false])) rfl rfl (G4.out.alloc _) (World.ownsRow_lit (e := 3) (size := 1) _ #[] 0 hsz (by simp [maxLen]) rfl) (T4.out.2.alloc hsz _)
    · have H4 := Lib.hid h4
      clear h4
      obtain ⟨p0, p1⟩ := T4.out.cells
      cases h5 : ((nz : Int) == N)
      · have H5 := Lib.hid h5
        have h5n : ((nz : Int) != N) = true := by simp [bne, h5]
        clear h5
        go_wp2_with fail
        go_ret3
        have hsz := T4.out.2.size
        exact retGIB (routeGs_no (by rw [HL.out, H5.out, Bool.and_false, Bool.and_false])) rfl rfl (G4.out.alloc _) (World.ownsRow_lit (e := 3) (size := 1) _ #[] 0 hsz (by simp [maxLen]) rfl) (T4.out.2.alloc hsz _)
      · have H5 := Lib.hid h5
        have h5n : ((nz : Int) != N) = false := by simp [bne, h5]
        clear h5
        have hly : isLay ps N zs = true := by rw [HL.out, H3.out, H4.out, H5.out]; rfl
        have HLAY := Lib.hid hly
        have HRL : Hid (rtsL ps N gs zs [] = R) := Lib.hid (by rw [← hR, routeGs_yes hly])
        clear hly hR
        go_wp2_with fail
        clear h5n p0 p1
        have T2 := T4
        have O2 := O4
        have G2 := G4
        clear T4 O4 G4
        go_loopg [9, 10, 11] n (fun r o z i wr => ∃ (k : Nat) (zl : List Int) (ol : List Gt) (Az : Option Addr) (cz' : Nat) (Ao : Option Addr) (no co : Nat), k + r = n ∧ i = .int .i64 k ∧ z = .slice Az nz cz' ∧ o = .slice Ao no co ∧ ol.length = no ∧ no ≤ 4 * k ∧ zl.length = nz ∧ isLay ps N zl = true ∧ rtsL ps N (gs.drop k) zl ol = R ∧ wr.ownsRow w.heap.size 3 1 (.slice Az nz cz') nz (cellsI zl) ∧ wr.ownsRow w.heap.size 55 4 (.slice Ao no co) no (cellsG ol) ∧ OneBx w N B m d wr)
        case atStart => exact ⟨0, zs, [], _, _, _, 0, 0, by omega, rfl, rfl, rfl, rfl, by omega, HZL.out, HLAY.out, HRL.out, O2.out, G2.out, T2.out⟩
        case round =>
          clear T2 O2 G2 HRL HLAY
          obtain ⟨k, zl, ol, Az, cz', Ao, no, co, hk, rfl, rfl, rfl, hol, hno, hzl, hly, hq, oz, oo, tt⟩ := hrel
          have HOL := Lib.hid hol
          have HZL2 := Lib.hid hzl
          have HLAY := Lib.hid hly
          have HQ := Lib.hid hq
          have OZ := Lib.hid oz
          have OO := Lib.hid oo
          have TT := Lib.hid tt
          clear hol hzl hly hq oz oo tt
          have hs0 := TT.out.2.size
          by_cases hlt : k < n
          · obtain ⟨bg, fg, gt, hA, hBg, hd, q0, q1, q2, q3⟩ := (H.out.below TT.out.2).at_ hlt
            subst hA
            have HD := Lib.hid hd
            clear hd
            have hi0 : (0 : Int) ≤ (k : Int) := by omega
            have hi1 : (k : Int) < (n : Int) := by omega
            obtain ⟨p0, p1⟩ := TT.out.cells
            have hsl : w.heap.size < wr.heap.size := TT.out.1.lt
            go_wp2_with fail
            clear hsl
            go_still_tail 6, (by kernel_rfl)
            go_wp2_with fail
            have TA := Lib.hid TT.out.drew
            have ZA := Lib.hid (ownsRow_drew OZ.out)
            have OA := Lib.hid (ownsRow_drew OO.out)
            refine (s_l38Right gt N B m d ps _ nz _ zl _ (HP.out.below TA.out.2) hm (RdI.own ZA.out) (ownsRow_cap ZA.out) (by omega)).mono ?_
            rintro e w3 ⟨rfl, b3⟩
            have T3 := Lib.hid (TA.out.below b3)
            have Z3 := Lib.hid (ownsRow_below ZA.out b3)
            have O3 := Lib.hid (ownsRow_below OA.out b3)
            have hs3 := T3.out.2.size
            clear p0 p1 q0 q1 q2 q3 b3 TA ZA OA TT OZ OO hs0
            cases hmay : mayR ps N zl gt
            · have HN := Lib.hid (show R = ([], [], false) from by rw [← HQ.out, rtsL_no HD.out hmay])
              clear hmay
              go_wp2_with fail
              go_ret3
              have hs3' : w.heap.size ≤ (w3.alloc (.cells #[] 55)).heap.size := Nat.le_trans hs3 (by simp)
              exact retGIB (HRR.out.trans HN.out) rfl rfl ((World.ownsRow_lit w3 #[] 0 hs3 (by simp [maxLen]) rfl).alloc _) (by have := World.ownsRow_lit (e := 3) (size := 1) (w3.alloc (.cells #[] 55)) #[] 0 hs3' (by simp [maxLen]) rfl; rw [World.size_alloc] at this; exact this) ((T3.out.2.alloc hs3 (.cells #[] 55)).alloc hs3' _)
            · have HST := Lib.hid (show rtsL ps N (gs.drop (k + 1)) (routeG ps N zl gt).2 (ol ++ (routeG ps N zl gt).1) = R from by rw [← HQ.out, rtsL_step HD.out hmay])
              have HL2 := Lib.hid (routeG_lay (g := gt) HLAY.out)
              have hl1 := routeG_len ps N zl gt
              have hl2 := routeG_rowN (g := gt) HLAY.out HZL2.out
              obtain ⟨L1, e1⟩ : ∃ L, (routeG ps N zl gt).1 = L := ⟨_, rfl⟩
              obtain ⟨L2, e2⟩ : ∃ L, (routeG ps N zl gt).2 = L := ⟨_, rfl⟩
              rw [e1] at hl1 HST
              rw [e2] at hl2 HST HL2
              obtain ⟨q, hq⟩ : ∃ q, L1.length = q := ⟨_, rfl⟩
              rw [hq] at hl1
              have E1 := Lib.hid e1
              have E2 := Lib.hid e2
              have HQ1 := Lib.hid hq
              have HLL := Lib.hid hl2
              clear e1 e2 hq hl2 hmay
              obtain ⟨p0, p1⟩ := T3.out.cells
              obtain ⟨bg', fg', gt', hA', hBg3, hd', q0, q1, q2, q3⟩ := (H.out.below T3.out.2).at_ hlt
              injection hA' with hA'
              injection hA' with e3 e4 _
              subst e3 e4
              obtain rfl : gt = gt' := by rw [HD.out] at hd'; injection hd'
              clear hd'
              have hgl : w.heap.size < w3.heap.size := T3.out.1.lt
              have HPd := Lib.hid (HP.out.below T3.out.2).drew
              go_wp2_with fail
              go_region_held3 (fun w' => w'.cell? ⟨bg, fg + k * 4, none⟩ = some (.int .i64 gt.k) ∧ w'.cell? ⟨bg, fg + k * 4 + 1, none⟩ = some (.int .i64 gt.a) ∧ w'.cell? ⟨bg, fg + k * 4 + 2, none⟩ = some (.int .i64 gt.b) ∧ w'.cell? ⟨bg, fg + k * 4 + 3, none⟩ = some (.int .i64 gt.c) ∧ w'.cell? ⟨w.heap.size, 0, none⟩ = some (.int .i64 N) ∧ w'.cell? ⟨w.heap.size, 1, none⟩ = some (.slice B m d))
                (first | go_keep | exact ⟨k0, k1, k2, k3, k4, k5⟩)
                ((go_at_call 95; (with_reducible refine (s_RouteGate gt N B m d ps _ nz _ zl _ HPd.out hm (RdI.own Z3.out).drew (ownsRow_cap Z3.out) hn).mono ?_); rintro e w4 ⟨A4, c4, A5, c5, rfl, o4, o5, b4⟩; rw [E1.out] at o4 ⊢; rw [E2.out] at o5 ⊢; rw [HQ1.out] at o4 ⊢; rw [HLL.out] at o5 ⊢; have k0 := (b4.cell (p := ⟨bg, fg + k * 4, none⟩) hBg3).trans q0; have k1 := (b4.cell (p := ⟨bg, fg + k * 4 + 1, none⟩) hBg3).trans q1; have k2 := (b4.cell (p := ⟨bg, fg + k * 4 + 2, none⟩) hBg3).trans q2; have k3 := (b4.cell (p := ⟨bg, fg + k * 4 + 3, none⟩) hBg3).trans q3; have k4 := (b4.cell (p := ⟨w.heap.size, 0, none⟩) hgl).trans p0; have k5 := (b4.cell (p := ⟨w.heap.size, 1, none⟩) hgl).trans p1))
              have T4 := Lib.hid (T3.out.drew.below b4)
              have O4 := Lib.hid (ownsRow_below (ownsRow_drew O3.out) b4)
              have S4 := Lib.hid o4
              have Z4 := Lib.hid (ownsRow_base o5 (show w.heap.size ≤ w3.drew.heap.size from hs3))
              have hs4 := T4.out.2.size
              clear p0 p1 q0 q1 q2 q3 o4 o5 b4 T3 O3 Z3 k0 k1 k2 k3 k4 k5
              go_wp2_with (at_builtin; refine wpList_app rfl (.tmp 61) (.tmp 62) 41 rfl Try.underlying41 infoGate rfl (by decide) rfl O4.out rfl (Rd.own S4.out) one_cellsG (by omega) (by decide) hs4 ?_; intro A6 c6 w6 o6 g6)
              go_roundg (gk - 1)
              case measure => omega
              case rel =>
                refine ⟨k + 1, L2, ol ++ L1, A5, c5, A6, no + q, c6, by omega, by go_num, rfl, rfl, by rw [List.length_append, HOL.out, HQ1.out], by omega, HLL.out, HL2.out, HST.out, Z4.out.kept g6 (own_types Z4.out O4.out (by decide)), by rw [cellsG_append]; exact o6, T4.out.grown O4.out g6 (by decide) (Nat.le_refl _)⟩
          · go_wp2_with fail
            go_ret3
            have hend : R = (ol, zl, true) := by rw [← HQ.out, List.drop_eq_nil_of_le (by have := H.out.1; omega), rtsL]
            exact retGIB (HRR.out.trans hend) HOL.out HZL2.out OO.out OZ.out TT.out.2
end Go.Proofs.Ytibhikngiceeeaa
