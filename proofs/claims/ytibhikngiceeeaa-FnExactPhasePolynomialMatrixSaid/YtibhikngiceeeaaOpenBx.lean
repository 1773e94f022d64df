/- Contracts of eqPhasePolynomial, markPhasePolynomial, heldPhasePolynomial. At most 2^39 terms and outputs. How the arguments of the laws read as lists of gates, pairs, numbers and bytes. Nothing is asked. -/
import Derived.Test.YtibhikngiceeeaaPolyC
import Derived.Test.YtibhikngiceeeaaBase
import Derived.ProofKit
import Derived.OpenShut
import Derived.Lib.SmallJoins
import Derived.Deep.Slices
import Derived.Deep.Fields
namespace Go.Proofs.Ytibhikngiceeeaa
open Go.RowKit

/-- The frame of markPhasePolynomial: new blocks, and writes to two rows. -/
def Marked (w w' : World) (v1 v2 : Value) : Prop := ∃ o wm, (w.alloc o).grownBy wm v1.ownBlock ∧ wm.grownBy w' v2.ownBlock
section
variable {w w' : World} {v1 v2 : Value}
theorem Marked.size (h : Marked w w' v1 v2) : w.heap.size ≤ w'.heap.size := by
  obtain ⟨o, wm, h1, h2⟩ := h
  have := h1.size
  have := h2.size
  simp at *
  omega
theorem Marked.own {base n sz : Nat} {e : TypeId} {v : Value} {xs : List Value} (h : Marked w w' v1 v2) (ho : w.ownsRow base e sz v n xs) (a1 : v.ownBlock = none ∨ v.ownBlock ≠ v1.ownBlock) (a2 : v.ownBlock = none ∨ v.ownBlock ≠ v2.ownBlock) : w'.ownsRow base e sz v n xs := by
  obtain ⟨o, wm, h1, h2⟩ := h
  exact ((ho.alloc o).kept h1 a1).kept h2 a2
theorem Marked.bx {g t : Nat} {cs : Array Value} (h : Marked w w' v1 v2) (hb : Bx w g t cs) (n1 : some g ≠ v1.ownBlock) (n2 : some g ≠ v2.ownBlock) : Bx w' g t cs := by
  obtain ⟨o, wm, h1, h2⟩ := h
  exact ((hb.alloc o).grown h1 n1).grown h2 n2
theorem Marked.below {B : Nat} {a : World} (h : Marked w w' v1 v2) (hb : Below B a w) (hs : B ≤ w.heap.size) (l1 : ∀ k, v1.ownBlock = some k → B ≤ k) (l2 : ∀ k, v2.ownBlock = some k → B ≤ k) : Below B a w' := by
  obtain ⟨o, wm, h1, h2⟩ := h
  have s1 : B ≤ (w.alloc o).heap.size := by simp; omega
  exact ((hb.alloc hs o).grown h1 s1 l1).grown h2 (Nat.le_trans s1 h1.size) l2
end

set_option maxHeartbeats 800000 in
theorem l_eqPoly_same (N H : Int) (AT AT' : Option Addr) (nT cT cT' : Nat) (t : List (Int × Int)) (AO AO' : Option Addr) (nO cO cO' : Nat) (o : List (Int × Int)) (w : World) (hT : RdP w AT nT t) (hT' : RdP w AT' nT t) (hO : RdP w AO nO o) (hO' : RdP w AO' nO o) (hnT : nT ≤ 1099511627776) (hnO : nO ≤ 1099511627776) :
    Calls Try.prog 13 #[.agg #[.int .i64 N, .int .i64 H, .slice AT nT cT, .slice AO nO cO], .agg #[.int .i64 N, .int .i64 H, .slice AT' nT cT', .slice AO' nO cO']] w fun e w' => e = .returned (.bool true) ∧ Below w.heap.size w w' := by
  have HT := Lib.hid hT
  have HO := Lib.hid hO
  have HT' := Lib.hid hT'
  have HO' := Lib.hid hO'
  clear hT hO hT' hO'
  have X0 := Lib.hid (show Bx ((w.alloc (.cells #[.int .i64 N, .int .i64 H, .slice AT nT cT, .slice AO nO cO] 32)).alloc (.cells #[.int .i64 N, .int .i64 H, .slice AT' nT cT', .slice AO' nO cO'] 32)) w.heap.size 32 _ from (Bx.new w _ _).alloc _)
  have X1 := Lib.hid (show Bx ((w.alloc (.cells #[.int .i64 N, .int .i64 H, .slice AT nT cT, .slice AO nO cO] 32)).alloc (.cells #[.int .i64 N, .int .i64 H, .slice AT' nT cT', .slice AO' nO cO'] 32)) (w.heap.size + 1) 32 _ from Bx.new' (by simp))
  have BZ : Hid (Below w.heap.size w ((w.alloc (.cells #[.int .i64 N, .int .i64 H, .slice AT nT cT, .slice AO nO cO] 32)).alloc (.cells #[.int .i64 N, .int .i64 H, .slice AT' nT cT', .slice AO' nO cO'] 32))) := Lib.hid (((Below.refl _ _).alloc (Nat.le_refl _) _).alloc (by simp) _)
  go_enter Try.func13, Try.ntmps13
  go_wp2_with fail
  refine (l_eqPhaseTermS_same _ _ _ _ _ t _ (HT.out.below BZ.out) (HT'.out.below BZ.out) hnT).mono ?_
  rintro e w1 ⟨rfl, b1⟩
  have B1 := Lib.hid (below_trans BZ.out b1)
  obtain ⟨p0, p1, p2, p3, _⟩ := (X0.out.below b1).four
  obtain ⟨q0, q1, q2, q3, _⟩ := (X1.out.below b1).four
  go_wp2_with fail
  refine (l_eqAffineFormS_same _ _ _ _ _ o _ (HO.out.below B1.out) (HO'.out.below B1.out) hnO).mono ?_
  rintro e w2 ⟨rfl, b2⟩
  go_wp2_with fail
  go_ret
  exact ⟨rfl, below_trans B1.out b2⟩

set_option maxHeartbeats 800000 in
theorem l_markPoly (base : Nat) (N H : Int) (AT : Option Addr) (nT cT : Nat) (xT : List Value) (AO : Option Addr) (nO cO : Nat) (xO : List Value) (j0 : Int) (w : World) (hT : w.ownsRow base 107 2 (.slice AT nT cT) nT xT) (hO : w.ownsRow base 109 2 (.slice AO nO cO) nO xO)
    (hnT : nT ≤ 549755813888) (hnO : nO ≤ 549755813888) (hj : 0 ≤ j0) (hj2 : j0 ≤ 549755813888) :
    Calls Try.prog 14 #[.agg #[.int .i64 N, .int .i64 H, .slice AT nT cT, .slice AO nO cO], .int .i64 j0] w fun e w' => e = .returned (.int .i64 (j0 + 2 * nT + 2 * nO)) ∧ w'.ownsRow base 107 2 (.slice AT nT cT) nT (cellsP (markP nT j0)) ∧ w'.ownsRow base 109 2 (.slice AO nO cO) nO (cellsP (markP nO (j0 + 2 * nT))) ∧ Marked w w' (.slice AT nT cT) (.slice AO nO cO) := by
  have HT := Lib.hid (hT.alloc (.cells #[.int .i64 N, .int .i64 H, .slice AT nT cT, .slice AO nO cO] 32))
  have HO := Lib.hid (hO.alloc (.cells #[.int .i64 N, .int .i64 H, .slice AT nT cT, .slice AO nO cO] 32))
  have X0 := Lib.hid (Bx.new w 32 #[.int .i64 N, .int .i64 H, .slice AT nT cT, .slice AO nO cO])
  clear hT hO
  go_enter Try.func14, Try.ntmps14
  go_wp2_with fail
  refine (l_markPhaseTermS _ _ _ _ _ _ _ _ HT.out (by omega) hj (by omega)).mono ?_
  rintro e w1 ⟨rfl, o1, g1⟩
  have O1 := Lib.hid o1
  have G1 := Lib.hid g1
  obtain ⟨p0, p1, p2, p3, _⟩ := (kept_app HT.out g1 X0.out (by decide)).four
  have HO1 := Lib.hid (HO.out.kept g1 (own_types HO.out HT.out (by decide)))
  clear o1 g1
  go_wp2_with fail
  refine (l_markAffineFormS _ _ _ _ _ _ _ _ HO1.out (by omega) (by omega) (by omega)).mono ?_
  rintro e w2 ⟨rfl, o2, g2⟩
  go_wp2_with fail
  go_ret
  exact ⟨rfl, O1.out.kept g2 (own_types O1.out HO1.out (by decide)), o2, _, _, G1.out, g2⟩
end Go.Proofs.Ytibhikngiceeeaa
namespace Go.Proofs.Ytibhikngiceeeaa
open Go.ChangeShapes Go.WideShapes Go.ChangeAt Go.RowKit Go.Deep

def I64 (n : Int) : Prop := -9223372036854775808 ≤ n ∧ n ≤ 9223372036854775807
theorem i64_of_wf {n : Int} (h : (Lit.int .i64 n).wf = true) : I64 n := by
  simpa [Lit.wf, IntKind.min, IntKind.max, IntKind.signed, IntKind.bits, I64] using h
def Gt.ok (g : Gt) : Prop := I64 g.k ∧ I64 g.a ∧ I64 g.b ∧ I64 g.c

theorem addr_plain {w : World} {a : Addr} {v : Value} (h : w.cell? (a.add 0) = some v) : ∃ b off, a = ⟨b, off, none⟩ ∧ b < w.heap.size := by
  obtain ⟨b, off, spot⟩ := a
  have e : spot = none := by simpa [Addr.add] using World.cell?_spot h
  subst e
  exact ⟨b, off, rfl, by simpa [Addr.add] using World.block_lt_of_cell? w _ h⟩
theorem add_lit (b off j : Nat) : (⟨b, off, none⟩ : Addr).add j = ⟨b, off + j, none⟩ := by
  unfold Addr.add
  split
  · subst j; rfl
  · rfl

section
variable {H : Type} {enc : TypeId × Value → H} {P : Program} {w : World} {base : Nat} {spare : Nat → Bool} {held : Bool}

theorem choose_list {α : Type} (n : Nat) (p : Nat → α → Prop) (h : ∀ i, i < n → ∃ x, p i x) : ∃ l : List α, l.length = n ∧ ∀ i x, l[i]? = some x → p i x := by
  induction n with
  | zero => exact ⟨[], rfl, fun i x hx => by simp at hx⟩
  | succ n ih =>
    obtain ⟨l, hl, hp⟩ := ih fun i hi => h i (by omega)
    obtain ⟨x, hx⟩ := h n (by omega)
    refine ⟨l ++ [x], by simp [hl], fun i y hy => ?_⟩
    rw [List.getElem?_append] at hy
    split at hy
    · exact hp i y hy
    · rename_i hge
      have : i - l.length = 0 := by
        rcases Nat.eq_zero_or_pos (i - l.length) with h0 | h0
        · exact h0
        · rw [List.getElem?_eq_none (by simp; omega)] at hy; cases hy
      rw [this] at hy
      simp at hy
      subst hy
      obtain rfl : i = n := by omega
      exact hx

theorem open_rows {t e : TypeId} {fuel sz : Nat} {v : Value} {x : DataW H × List MemPlace} (hC : P.cellsOf e = sz) (hsz : 0 < sz) (ht : P.underlying t = some (.slice e)) (h : DataW.trod enc P w base spare held fuel t [v] = some x) :
    ∃ A n cap, v = .slice A n cap ∧ n ≤ cap ∧ cap ≤ maxLen ∧ (A = none → n = 0 ∧ cap = 0) ∧
      ∃ l : List (List Value), l.length = n ∧ (∀ c ∈ l, c.length = sz ∧ ∃ m y, DataW.trod enc P w base spare held m e c = some y) ∧
        (0 < n → ∃ b off, A = some ⟨b, off, none⟩ ∧ b < w.heap.size ∧ ∀ i c j u, l[i]? = some c → c[j]? = some u → w.cell? ⟨b, off + (i * sz + j), none⟩ = some u) := by
  rcases open_slice ht h with ⟨h0, _⟩ | ⟨a, len, cap, m, n, D, Pl, hcs, hb, hl, hm, hmm, hx, hi⟩
  · simp at h0
    subst h0
    exact ⟨none, 0, 0, rfl, by omega, by simp [maxLen], fun _ => ⟨rfl, rfl⟩, [], rfl, fun c hc => by simp at hc, fun h => absurd h (by omega)⟩
  · simp at hcs
    subst hcs
    refine ⟨some a, len, cap, rfl, hl, hm, (fun h => by simp at h), ?_⟩
    have hle : len ≤ m := by rw [hmm]; split <;> omega
    obtain ⟨l, hll, hp⟩ := choose_list len (fun i c => c.length = sz ∧ (∃ m y, DataW.trod enc P w base spare held m e c = some y) ∧ ∀ j u, c[j]? = some u → w.cell? (a.add (i * sz + j)) = some u) (fun i hi' => by
      obtain ⟨cs', hc, ht'⟩ := hi i (by omega)
      rw [hC] at hc
      obtain ⟨_, hcl, hat⟩ := World.cells?_some hc
      refine ⟨cs', hcl, ⟨_, _, ht'⟩, fun j u hu => ?_⟩
      have hjl : j < sz := by
        rcases Nat.lt_or_ge j cs'.length with h | h
        · omega
        · rw [List.getElem?_eq_none h] at hu; cases hu
      have := hat j hjl
      rw [hu] at this
      rw [← Go.Deep.add_add]
      exact this)
    refine ⟨l, hll, fun c hc => ?_, fun hn => ?_⟩
    · obtain ⟨i, hi1, rfl⟩ := List.getElem_of_mem hc
      obtain ⟨h1, h2, _⟩ := hp i l[i] (List.getElem?_eq_getElem hi1)
      exact ⟨h1, h2⟩
    · have h0 : l[0]? = some (l[0]'(by omega)) := List.getElem?_eq_getElem (by omega)
      obtain ⟨g1, _, g3⟩ := hp 0 _ h0
      have h00 : (l[0]'(by omega))[0]? = some ((l[0]'(by omega))[0]'(by omega)) := List.getElem?_eq_getElem (by omega)
      have hc0 := g3 0 _ h00
      simp only [Nat.zero_mul, Nat.add_zero] at hc0
      obtain ⟨b, off, rfl, hlt⟩ := addr_plain hc0
      refine ⟨b, off, rfl, hlt, fun i c j u hc hu => ?_⟩
      obtain ⟨_, _, k3⟩ := hp i c hc
      rw [← add_lit]
      exact k3 j u hu

theorem flat_at (sz : Nat) : ∀ (l : List (List Value)) (j : Nat) (u : Value), (∀ c ∈ l, c.length = sz) → l.flatten[j]? = some u → ∃ i c k, l[i]? = some c ∧ c[k]? = some u ∧ j = i * sz + k
  | [], j, u, _, h => by simp at h
  | c :: r, j, u, hl, h => by
    have hc := hl c (by simp)
    rw [List.flatten_cons, List.getElem?_append] at h
    split at h
    · exact ⟨0, c, j, by simp, h, by omega⟩
    · obtain ⟨i, c', k, h1, h2, h3⟩ := flat_at sz r (j - c.length) u (fun c hc => hl c (by simp [hc])) h
      refine ⟨i + 1, c', k, by simpa using h1, h2, ?_⟩
      rw [Nat.add_mul]; omega

theorem rd_rows {A : Option Addr} {n sz : Nat} {l : List (List Value)} (hl : l.length = n) (hc : ∀ c ∈ l, c.length = sz)
    (h : 0 < n → ∃ b off, A = some ⟨b, off, none⟩ ∧ b < w.heap.size ∧ ∀ i c j u, l[i]? = some c → c[j]? = some u → w.cell? ⟨b, off + (i * sz + j), none⟩ = some u) : Rd w sz A n l.flatten := by
  refine ⟨?_, fun hn => ?_⟩
  · subst hl
    clear h
    induction l with
    | nil => simp
    | cons c r ih =>
      rw [List.flatten_cons, List.length_append, ih fun c hc' => hc c (by simp [hc']), hc c (by simp), List.length_cons, Nat.add_mul]; omega
  · obtain ⟨b, off, e, hb, hh⟩ := h hn
    refine ⟨b, off, e, hb, fun j u hu => ?_⟩
    obtain ⟨i, c, k, h1, h2, rfl⟩ := flat_at sz l j u hc hu
    exact hh i c k u h1 h2

theorem map_of {α : Type} (f : α → List Value) (ok : α → Prop) (l : List (List Value)) (h : ∀ c ∈ l, ∃ g, c = f g ∧ ok g) : ∃ gs : List α, l = gs.map f ∧ ∀ g ∈ gs, ok g := by
  induction l with
  | nil => exact ⟨[], rfl, fun g hg => by simp at hg⟩
  | cons c r ih =>
    obtain ⟨gs, e, hk⟩ := ih fun c hc => h c (by simp [hc])
    obtain ⟨g, rfl, hg⟩ := h c (by simp)
    exact ⟨g :: gs, by simp [e], fun x hx => by
      rcases List.mem_cons.1 hx with rfl | hx
      · exact hg
      · exact hk x hx⟩

theorem open_gates {t e : TypeId} {fuel : Nat} {v : Value} {x : DataW H × List MemPlace} {f0 f1 f2 f3 : Field} (ht : P.underlying t = some (.slice e)) (he : P.underlying e = some (.struct #[f0, f1, f2, f3]))
    (hone : oneCellFields P #[f0, f1, f2, f3] = true) (hC : P.cellsOf e = 4) (h0 : P.underlying f0.type = some (.int .i64)) (h1 : P.underlying f1.type = some (.int .i64)) (h2 : P.underlying f2.type = some (.int .i64)) (h3 : P.underlying f3.type = some (.int .i64))
    (h : DataW.trod enc P w base spare held fuel t [v] = some x) :
    ∃ A n cap gs, v = .slice A n cap ∧ RdG w A n gs ∧ n ≤ cap ∧ cap ≤ maxLen ∧ ∀ g ∈ gs, g.ok := by
  obtain ⟨A, n, cap, rfl, h4, h5, _, l, hl, hc, hr⟩ := open_rows hC (by omega) ht h
  obtain ⟨gs, rfl, hok⟩ := map_of Gt.cells Gt.ok l (fun c hcm => by
    obtain ⟨hlen, m, y, hy⟩ := hc c hcm
    obtain ⟨ys, n', _, _, _, _, hf⟩ := DataW.trod_struct he hy
    obtain ⟨c0, c1, c2, c3, rfl⟩ : ∃ c0 c1 c2 c3, c = [c0, c1, c2, c3] := by
      match c, hlen with
      | [c0, c1, c2, c3], _ => exact ⟨c0, c1, c2, c3, rfl⟩
    have g : ∀ (i : Nat) (f : Field) (u : Value), #[f0, f1, f2, f3][i]? = some f → [c0, c1, c2, c3][i]? = some u → P.underlying f.type = some (.int .i64) → ∃ z, u = .int .i64 z ∧ I64 z := by
      intro i f u hi hu hi64
      obtain ⟨ho, hk⟩ := hone_of hone i f hi
      have hyi := hf i f hi
      rw [ho, hk] at hyi
      have hil : i < 4 := by have := (Array.getElem?_eq_some_iff.1 hi).1; simpa using this
      have hil' : i < [c0, c1, c2, c3].length := by simpa using hil
      have e1 : ([c0, c1, c2, c3].drop i).take 1 = [u] := by
        rw [List.drop_eq_getElem_cons hil']
        rw [List.getElem?_eq_getElem hil'] at hu
        simp at hu
        simp [hu]
      rw [e1] at hyi
      have hys : ∃ y, ys[i]? = some y := by
        have : i < ys.length := by simp_all
        exact ⟨_, List.getElem?_eq_getElem this⟩
      obtain ⟨y', hy'⟩ := hys
      rw [hy'] at hyi
      obtain ⟨z, hz, _, hw⟩ := DataW.trod_int hi64 hyi
      simp at hz
      exact ⟨z, hz, i64_of_wf hw⟩
    obtain ⟨z0, rfl, b0⟩ := g 0 f0 c0 rfl rfl h0
    obtain ⟨z1, rfl, b1⟩ := g 1 f1 c1 rfl rfl h1
    obtain ⟨z2, rfl, b2⟩ := g 2 f2 c2 rfl rfl h2
    obtain ⟨z3, rfl, b3⟩ := g 3 f3 c3 rfl rfl h3
    exact ⟨⟨z0, z1, z2, z3⟩, rfl, b0, b1, b2, b3⟩)
  refine ⟨A, n, cap, gs, rfl, ⟨by simpa using hl, ?_⟩, h4, h5, hok⟩
  have := rd_rows hl (fun c hcm => (hc c hcm).1) hr
  rwa [← List.flatMap_def] at this

theorem open_pairs {t e : TypeId} {fuel : Nat} {v : Value} {x : DataW H × List MemPlace} {f0 f1 : Field} (ht : P.underlying t = some (.slice e)) (he : P.underlying e = some (.struct #[f0, f1]))
    (hone : oneCellFields P #[f0, f1] = true) (hC : P.cellsOf e = 2) (h0 : P.underlying f0.type = some (.int .i64)) (h1 : P.underlying f1.type = some (.int .i64))
    (h : DataW.trod enc P w base spare held fuel t [v] = some x) :
    ∃ A n cap ps, v = .slice A n cap ∧ RdP w A n ps ∧ n ≤ cap ∧ cap ≤ maxLen ∧ ∀ g ∈ ps, I64 g.1 ∧ I64 g.2 := by
  obtain ⟨A, n, cap, rfl, h4, h5, _, l, hl, hc, hr⟩ := open_rows hC (by omega) ht h
  obtain ⟨gs, rfl, hok⟩ := map_of (fun p : Int × Int => [Value.int .i64 p.1, .int .i64 p.2]) (fun p => I64 p.1 ∧ I64 p.2) l (fun c hcm => by
    obtain ⟨hlen, m, y, hy⟩ := hc c hcm
    obtain ⟨ys, n', _, _, _, _, hf⟩ := DataW.trod_struct he hy
    obtain ⟨c0, c1, rfl⟩ : ∃ c0 c1, c = [c0, c1] := by
      match c, hlen with
      | [c0, c1], _ => exact ⟨c0, c1, rfl⟩
    have g : ∀ (i : Nat) (f : Field) (u : Value), #[f0, f1][i]? = some f → [c0, c1][i]? = some u → P.underlying f.type = some (.int .i64) → ∃ z, u = .int .i64 z ∧ I64 z := by
      intro i f u hi hu hi64
      obtain ⟨ho, hk⟩ := hone_of hone i f hi
      have hyi := hf i f hi
      rw [ho, hk] at hyi
      have hil : i < 2 := by have := (Array.getElem?_eq_some_iff.1 hi).1; simpa using this
      have hil' : i < [c0, c1].length := by simpa using hil
      have e1 : ([c0, c1].drop i).take 1 = [u] := by
        rw [List.drop_eq_getElem_cons hil']
        rw [List.getElem?_eq_getElem hil'] at hu
        simp at hu
        simp [hu]
      rw [e1] at hyi
      have hys : ∃ y, ys[i]? = some y := by
        have : i < ys.length := by simp_all
        exact ⟨_, List.getElem?_eq_getElem this⟩
      obtain ⟨y', hy'⟩ := hys
      rw [hy'] at hyi
      obtain ⟨z, hz, _, hw⟩ := DataW.trod_int hi64 hyi
      simp at hz
      exact ⟨z, hz, i64_of_wf hw⟩
    obtain ⟨z0, rfl, b0⟩ := g 0 f0 c0 rfl rfl h0
    obtain ⟨z1, rfl, b1⟩ := g 1 f1 c1 rfl rfl h1
    exact ⟨(z0, z1), rfl, b0, b1⟩)
  refine ⟨A, n, cap, gs, rfl, ⟨by simpa using hl, ?_⟩, h4, h5, hok⟩
  have := rd_rows hl (fun c hcm => (hc c hcm).1) hr
  rwa [← List.flatMap_def] at this

theorem flat_ones (k : IntKind) (gs : List Int) : gs.map (Value.int k) = (gs.map fun z : Int => [Value.int k z]).flatten := by
  induction gs with
  | nil => rfl
  | cons a r ih => simp only [List.map_cons, List.flatten_cons, ih, List.singleton_append]

theorem open_nums {t e : TypeId} {fuel : Nat} {v : Value} {x : DataW H × List MemPlace} (ht : P.underlying t = some (.slice e)) (he : P.underlying e = some (.int .i64)) (hC : P.cellsOf e = 1)
    (h : DataW.trod enc P w base spare held fuel t [v] = some x) :
    ∃ A n cap zs, v = .slice A n cap ∧ RdI w A n zs ∧ n ≤ cap ∧ cap ≤ maxLen ∧ ∀ z ∈ zs, I64 z := by
  obtain ⟨A, n, cap, rfl, h4, h5, _, l, hl, hc, hr⟩ := open_rows hC (by omega) ht h
  obtain ⟨gs, rfl, hok⟩ := map_of (fun z : Int => [Value.int .i64 z]) I64 l (fun c hcm => by
    obtain ⟨hlen, m, y, hy⟩ := hc c hcm
    obtain ⟨z, hz, _, hw⟩ := DataW.trod_int he hy
    exact ⟨z, hz, i64_of_wf hw⟩)
  refine ⟨A, n, cap, gs, rfl, ⟨by simpa using hl, ?_⟩, h4, h5, hok⟩
  have := rd_rows hl (fun c hcm => (hc c hcm).1) hr
  rwa [← flat_ones] at this

theorem open_bytes {t e : TypeId} {fuel : Nat} {v : Value} {x : DataW H × List MemPlace} (ht : P.underlying t = some (.slice e)) (he : P.underlying e = some (.int .u8)) (hC : P.cellsOf e = 1)
    (h : DataW.trod enc P w base spare held fuel t [v] = some x) :
    ∃ (A : Option Addr) (n cap : Nat) (zs : List Int), v = .slice A n cap ∧ (zs.length = n ∧ Rd w 1 A n (zs.map (Value.int .u8))) ∧ n ≤ cap ∧ cap ≤ maxLen ∧ ∀ z ∈ zs, 0 ≤ z ∧ z ≤ 255 := by
  obtain ⟨A, n, cap, rfl, h4, h5, _, l, hl, hc, hr⟩ := open_rows hC (by omega) ht h
  obtain ⟨gs, rfl, hok⟩ := map_of (fun z : Int => [Value.int .u8 z]) (fun z => 0 ≤ z ∧ z ≤ 255) l (fun c hcm => by
    obtain ⟨hlen, m, y, hy⟩ := hc c hcm
    obtain ⟨z, hz, _, hw⟩ := DataW.trod_int he hy
    exact ⟨z, hz, by simpa [Lit.wf, IntKind.min, IntKind.max, IntKind.signed, IntKind.bits] using hw⟩)
  refine ⟨A, n, cap, gs, rfl, ⟨by simpa using hl, ?_⟩, h4, h5, hok⟩
  have := rd_rows hl (fun c hcm => (hc c hcm).1) hr
  rwa [← flat_ones] at this
end
end Go.Proofs.Ytibhikngiceeeaa
