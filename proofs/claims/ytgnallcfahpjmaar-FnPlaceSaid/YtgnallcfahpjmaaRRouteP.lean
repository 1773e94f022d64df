/- Plain: routing by swaps. Nothing is asked. -/
import Derived.Test.YtgnallcfahpjmaaRLay
import Derived.Test.YtgnallcfahpjmaaRPermQ
import Derived.Test.YtgnallcfahpjmaaRPathP
import Derived.Test.YtgnallcfahpjmaaRSwapL
import Derived.Test.YtgnallcfahpjmaaRLong
namespace Go.Proofs.YtgnallcfahpjmaaR

def basicK (k : Int) : Bool := arity k == 1 || k == 9
def mayR (ps : List (Int × Int)) (N : Int) (zs : List Int) (g : Gt) : Bool := isLay ps N zs && (basicK g.k && okG g.k g.a g.b g.c N)
def zAt (zs : List Int) (q : Int) : Int := zs.getD q.toNat 0
/-- The second place of the shortest way. -/
def way1 (ps : List (Int × Int)) (N a b : Int) : Int := (spath ps N a b).getD 1 0
def rt (ps : List (Int × Int)) (N qa qb : Int) : Nat → List Int → List Gt × List Int
  | 0, z => ([⟨9, zAt z qa, zAt z qb, 0⟩], z)
  | f + 1, z => if gd ps N (zAt z qa) (zAt z qb) ≤ 1 then ([⟨9, zAt z qa, zAt z qb, 0⟩], z) else
      let r := rt ps N qa qb f (swapL z (zAt z qa) (way1 ps N (zAt z qa) (zAt z qb)))
      (⟨11, zAt z qa, way1 ps N (zAt z qa) (zAt z qb), 0⟩ :: r.1, r.2)
theorem rt_far {ps : List (Int × Int)} {N qa qb : Int} {f : Nat} {z : List Int} (h : 1 < gd ps N (zAt z qa) (zAt z qb)) :
    rt ps N qa qb (f + 1) z = (⟨11, zAt z qa, way1 ps N (zAt z qa) (zAt z qb), 0⟩ :: (rt ps N qa qb f (swapL z (zAt z qa) (way1 ps N (zAt z qa) (zAt z qb)))).1, (rt ps N qa qb f (swapL z (zAt z qa) (way1 ps N (zAt z qa) (zAt z qb)))).2) := by
  rw [rt, if_neg (by omega)]
theorem rt_near {ps : List (Int × Int)} {N qa qb : Int} {f : Nat} {z : List Int} (h : gd ps N (zAt z qa) (zAt z qb) ≤ 1) : rt ps N qa qb f z = ([⟨9, zAt z qa, zAt z qb, 0⟩], z) := by
  cases f with
  | zero => rfl
  | succ f => rw [rt, if_pos h]
theorem rt_len (ps : List (Int × Int)) (N qa qb : Int) : ∀ (f : Nat) (z : List Int), (rt ps N qa qb f z).1.length ≤ f + 1
  | 0, z => by simp [rt]
  | f + 1, z => by
    rw [rt]
    split
    · simp
    · have := rt_len ps N qa qb f (swapL z (zAt z qa) (way1 ps N (zAt z qa) (zAt z qb)))
      simp only [List.length_cons]
      omega
def routeG (ps : List (Int × Int)) (N : Int) (zs : List Int) (g : Gt) : List Gt × List Int :=
  if mayR ps N zs g = true then (if (arity g.k == 1) = true then ([⟨g.k, zAt zs g.a, 0, 0⟩], zs) else rt ps N g.a g.b 3 zs) else ([], zs)
def rtsL (ps : List (Int × Int)) (N : Int) : List Gt → List Int → List Gt → List Gt × List Int × Bool
  | [], z, acc => (acc, z, true)
  | g :: r, z, acc => if mayR ps N z g = true then rtsL ps N r (routeG ps N z g).2 (acc ++ (routeG ps N z g).1) else ([], [], false)
def routeGs (ps : List (Int × Int)) (N : Int) (zs : List Int) (gs : List Gt) : List Gt × List Int × Bool := if isLay ps N zs = true then rtsL ps N gs zs [] else ([], [], false)
def brL (ps : List (Int × Int)) (N : Int) (z : List Int) : List Gt → List Gt → List Gt × Bool
  | [], acc => (acc, true)
  | g :: r, acc => if mayR ps N z g = true then brL ps N z r (acc ++ (if (arity g.k == 1) = true then [⟨g.k, zAt z g.a, 0, 0⟩] else longCX (spath ps N (zAt z g.a) (zAt z g.b)))) else ([], false)
def bridgeGs (ps : List (Int × Int)) (N : Int) (zs : List Int) (gs : List Gt) : List Gt × Bool := if isLay ps N zs = true then brL ps N zs gs [] else ([], false)

theorem sw_sw (a b x : Int) : sw a b (sw a b x) = x := by
  unfold sw
  by_cases h1 : x = a
  · subst h1
    rw [if_pos rfl]
    by_cases h2 : b = x
    · rw [if_pos h2, h2]
    · rw [if_neg h2, if_pos rfl]
  · rw [if_neg h1]
    by_cases h2 : x = b
    · subst h2
      rw [if_pos rfl, if_pos rfl]
    · rw [if_neg h2, if_neg h1, if_neg h2]
theorem sw_inj {a b x y : Int} (h : sw a b x = sw a b y) : x = y := by rw [← sw_sw a b x, h, sw_sw]
theorem isPerm_swap {z : List Int} {a b : Int} (h : isPerm z = true) (ha : 0 ≤ a) (ha2 : a < z.length) (hb : 0 ≤ b) (hb2 : b < z.length) : isPerm (swapL z a b) = true ∧ (swapL z a b).length = z.length := by
  have e : swapL z a b = z.map (sw a b) := by unfold swapL; rw [if_pos h]
  have hl : (swapL z a b).length = z.length := by rw [e, List.length_map]
  refine ⟨?_, hl⟩
  obtain ⟨h1, h2, h3, h4⟩ := (isPerm_iff z).1 h
  rw [isPerm_iff, hl]
  refine ⟨?_, ?_, h3, h4⟩
  · intro y hy
    rw [e, List.mem_map] at hy
    obtain ⟨x, hx, rfl⟩ := hy
    have := h1 x hx
    unfold sw
    split
    · omega
    · split <;> omega
  · rw [e, List.nodup_iff_pairwise_ne, List.pairwise_map]
    rw [List.nodup_iff_pairwise_ne] at h2
    exact h2.imp fun hn he => hn (sw_inj he)
theorem isLay_swap {ps : List (Int × Int)} {N : Int} {z : List Int} {a b : Int} (h : isLay ps N z = true) (ha : 0 ≤ a) (ha2 : a < N) (hb : 0 ≤ b) (hb2 : b < N) : isLay ps N (swapL z a b) = true := by
  unfold isLay at h ⊢
  simp only [Bool.and_eq_true, beq_iff_eq] at h ⊢
  obtain ⟨h1, h2, h3⟩ := h
  have := isPerm_swap h2 ha (by omega) hb (by omega)
  exact ⟨h1, this.1, by rw [this.2]; exact h3⟩
theorem isLay_len {ps : List (Int × Int)} {N : Int} {z : List Int} (h : isLay ps N z = true) : (z.length : Int) = N ∧ isPerm z = true ∧ 1 ≤ N ∧ N ≤ 4 := by
  unfold isLay at h
  simp only [Bool.and_eq_true, beq_iff_eq] at h
  have := isPerm_len h.2.1
  exact ⟨h.2.2, h.2.1, by omega, by omega⟩
theorem zAt_rng {ps : List (Int × Int)} {N : Int} {z : List Int} {q : Int} (h : isLay ps N z = true) (_ : 0 ≤ q) (h1 : q < N) : 0 ≤ zAt z q ∧ zAt z q < N := by
  obtain ⟨e1, e2, e3, e4⟩ := isLay_len h
  obtain ⟨h5, _⟩ := (isPerm_iff z).1 e2
  have hl : q.toNat < z.length := by omega
  have := h5 z[q.toNat] (List.getElem_mem hl)
  unfold zAt
  rw [List.getD_eq_getElem?_getD, List.getElem?_eq_getElem hl, Option.getD_some]
  omega
theorem zAt_swap {z : List Int} {a b q : Int} (h : isPerm z = true) (hq : q.toNat < z.length) : zAt (swapL z a b) q = sw a b (zAt z q) := by
  unfold zAt swapL
  rw [if_pos h, List.getD_eq_getElem?_getD, List.getD_eq_getElem?_getD, List.getElem?_map, List.getElem?_eq_getElem hq]
  rfl
theorem gd_self {ps : List (Int × Int)} {N a : Nat} (hN1 : 1 ≤ N) (hN4 : N ≤ 4) (ha : a < N) : gd ps N a a = 0 := by
  rw [gd_inS (by omega) (by omega) (by omega) (by omega) (by omega) (by omega)]
  unfold gdS
  rw [Int.toNat_natCast]
  exact sF_hit (mat ps) N a 0 N [(a : Int)] (by omega) (by omega) (by simp [hasI0])
/-- One swap on the way. -/
theorem step_ok {ps : List (Int × Int)} {N : Int} {z : List Int} {qa qb : Int} (h : isLay ps N z = true) (ha0 : 0 ≤ qa) (ha1 : qa < N) (hb0 : 0 ≤ qb) (hb1 : qb < N) (hd : 1 < gd ps N (zAt z qa) (zAt z qb)) :
    ∃ rest, spath ps N (zAt z qa) (zAt z qb) = zAt z qa :: way1 ps N (zAt z qa) (zAt z qb) :: rest ∧ 0 ≤ way1 ps N (zAt z qa) (zAt z qb) ∧ way1 ps N (zAt z qa) (zAt z qb) < N ∧
      isLay ps N (swapL z (zAt z qa) (way1 ps N (zAt z qa) (zAt z qb))) = true ∧
      gd ps N (zAt (swapL z (zAt z qa) (way1 ps N (zAt z qa) (zAt z qb))) qa) (zAt (swapL z (zAt z qa) (way1 ps N (zAt z qa) (zAt z qb))) qb) = gd ps N (zAt z qa) (zAt z qb) - 1 := by
  obtain ⟨e1, e2, e3, e4⟩ := isLay_len h
  have hra := zAt_rng h ha0 ha1
  have hrb := zAt_rng h hb0 hb1
  obtain ⟨a, hA⟩ : ∃ a, zAt z qa = a := ⟨_, rfl⟩
  obtain ⟨b, hB⟩ : ∃ b, zAt z qb = b := ⟨_, rfl⟩
  rw [hA] at hra
  rw [hB] at hrb
  rw [hA, hB] at hd ⊢
  obtain ⟨n, rfl⟩ : ∃ n : Nat, N = n := ⟨N.toNat, by omega⟩
  obtain ⟨a, rfl⟩ : ∃ k : Nat, a = k := ⟨a.toNat, by omega⟩
  obtain ⟨b, rfl⟩ : ∃ k : Nat, b = k := ⟨b.toNat, by omega⟩
  obtain ⟨d, hD⟩ : ∃ d : Nat, gd ps n a b = ((d + 1 : Nat) : Int) := ⟨(gd ps n a b).toNat - 1, by omega⟩
  obtain ⟨x, hx1, hx2, hx3, hx4⟩ := nxt_ok (by omega) (by omega) (by omega) (by omega) hD
  have hp : spath ps n a b = (a : Int) :: (x : Int) :: pS ps n b d x := by
    unfold spath
    rw [hD, if_neg (by omega), Int.toNat_natCast, pS_step hx1]
  have hw : way1 ps n a b = x := by unfold way1; rw [hp]; rfl
  rw [hw]
  have hab : a ≠ b := by
    rintro rfl
    rw [gd_self (by omega) (by omega) (by omega)] at hD
    omega
  have hxb : x ≠ b := by
    rintro rfl
    rw [gd_self (by omega) (by omega) (by omega)] at hx4
    omega
  refine ⟨_, hp, by omega, by omega, isLay_swap h (by omega) (by omega) (by omega) (by omega), ?_⟩
  rw [zAt_swap e2 (by omega), zAt_swap e2 (by omega), hA, hB]
  have s1 : sw (a : Int) x a = x := by unfold sw; rw [if_pos rfl]
  have s2 : sw (a : Int) x b = b := by unfold sw; rw [if_neg (by omega), if_neg (by omega)]
  rw [s1, s2, hx4, hD]
  omega
theorem basic_kind {k : Int} (h : basicK k = true) (h1 : (arity k == 1) = false) : k = 9 := by
  unfold basicK at h
  rw [h1, Bool.false_or] at h
  simpa using h
theorem basic_ne {k : Int} (h1 : (arity k == 1) = true) : k ≠ 9 := by
  rintro rfl
  revert h1
  decide
theorem ar9 : arity 9 = 2 := by decide
theorem mayR_parts {ps : List (Int × Int)} {N : Int} {z : List Int} {g : Gt} (h : mayR ps N z g = true) : isLay ps N z = true ∧ basicK g.k = true ∧ okG g.k g.a g.b g.c N = true := by
  unfold mayR at h
  simpa [Bool.and_eq_true] using h
theorem mayR_a {ps : List (Int × Int)} {N : Int} {z : List Int} {g : Gt} (h : mayR ps N z g = true) : 0 ≤ g.a ∧ g.a < N := okG_a (mayR_parts h).2.2
theorem mayR_b {ps : List (Int × Int)} {N : Int} {z : List Int} {g : Gt} (h : mayR ps N z g = true) (h1 : (arity g.k == 1) = false) : 0 ≤ g.b ∧ g.b < N := by
  have h9 := basic_kind (mayR_parts h).2.1 h1
  exact okG_b (mayR_parts h).2.2 (by rw [h9, ar9]; omega)
theorem rt_lay {ps : List (Int × Int)} {N qa qb : Int} (ha0 : 0 ≤ qa) (ha1 : qa < N) (hb0 : 0 ≤ qb) (hb1 : qb < N) : ∀ (f : Nat) (z : List Int), isLay ps N z = true → isLay ps N (rt ps N qa qb f z).2 = true
  | 0, z, h => h
  | f + 1, z, h => by
    by_cases hd : 1 < gd ps N (zAt z qa) (zAt z qb)
    · obtain ⟨_, _, _, _, hs, _⟩ := step_ok h ha0 ha1 hb0 hb1 hd
      rw [rt_far hd]
      exact rt_lay ha0 ha1 hb0 hb1 f _ hs
    · rw [rt_near (by omega)]
      exact h
theorem routeG_lay {ps : List (Int × Int)} {N : Int} {z : List Int} {g : Gt} (h : isLay ps N z = true) : isLay ps N (routeG ps N z g).2 = true := by
  unfold routeG
  by_cases hm : mayR ps N z g = true
  · rw [if_pos hm]
    cases h1 : (arity g.k == 1)
    · rw [if_neg (by simp)]
      obtain ⟨a0, a1⟩ := mayR_a hm
      obtain ⟨b0, b1⟩ := mayR_b hm h1
      exact rt_lay a0 a1 b0 b1 3 z h
    · rw [if_pos rfl]
      exact h
  · rw [if_neg hm]
    exact h
theorem routeG_len (ps : List (Int × Int)) (N : Int) (z : List Int) (g : Gt) : (routeG ps N z g).1.length ≤ 4 := by
  unfold routeG
  split
  · split
    · simp
    · exact rt_len ps N g.a g.b 3 z
  · simp
theorem routeG_row {ps : List (Int × Int)} {N : Int} {z : List Int} {g : Gt} (h : isLay ps N z = true) : (routeG ps N z g).2.length ≤ 4 := by
  have := isLay_len (routeG_lay (g := g) h)
  omega
end Go.Proofs.YtgnallcfahpjmaaR
