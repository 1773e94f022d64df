/- Plain: numbers of D[omega], and how gates act on rows of them. No program in sight; nothing is asked. Numbers of D[omega] as cells; slices of them; places where an amplitude is sent. Nothing is asked. Contracts of the numbers of Z[omega] (spec): l2Near, IsValidZOmega, l2If, AddZOmega, NegZOmega, MulZOmega, DivSqrt2. Where a partial operation is asked: it succeeds. Contracts of NegZOmega, DivSqrt2, IsValidDOmega, NewDOmega, l3Up, AddDOmega, MulDOmega, NegDOmega (spec). Where a partial operation is asked: it succeeds. -/
import Derived.Test.YtibhikngiceeeaaOkGate
import Derived.Test.YtibhikngiceeeaaProg
import Derived.Test.YtibhikngiceeeaaBase
import Derived.Test.YtibhikngiceeeaaGateS
import Derived.StillTailTactics
import Derived.Deep.RegionHeld3
import Derived.Deep.DeepCutAuto
namespace Go.Proofs.Ytibhikngiceeeaa

structure Zw where
  a : Int
  b : Int
  c : Int
  d : Int
  deriving DecidableEq
structure Dw where
  n : Zw
  e : Int
  deriving DecidableEq
def Zw.zero : Zw := ⟨0, 0, 0, 0⟩
def Dw.zero : Dw := ⟨Zw.zero, 0⟩
def nearB (x : Int) : Bool := inB x (-1073741824) 1073741824
def okZ (x : Zw) : Bool := nearB x.a && (nearB x.b && (nearB x.c && nearB x.d))
def ifZ (x : Zw) : Option Zw := if okZ x then some x else none
def addZ (x y : Zw) : Option Zw := if okZ x && okZ y then ifZ ⟨x.a + y.a, x.b + y.b, x.c + y.c, x.d + y.d⟩ else none
def timesZ (x y : Zw) : Zw := ⟨x.a * y.a - x.b * y.d - x.c * y.c - x.d * y.b, x.a * y.b + x.b * y.a - x.c * y.d - x.d * y.c, x.a * y.c + x.b * y.b + x.c * y.a - x.d * y.d, x.a * y.d + x.b * y.c + x.c * y.b + x.d * y.a⟩
def mulZ (x y : Zw) : Option Zw := if okZ x && okZ y then ifZ (timesZ x y) else none
def negZ (x : Zw) : Zw := if okZ x then ⟨-x.a, -x.b, -x.c, -x.d⟩ else Zw.zero
def halfZ (x : Zw) : Zw := ⟨x.b - x.d, x.a + x.c, x.b + x.d, x.c - x.a⟩
def evenZ (y : Zw) : Bool := y.a % 2 == 0 && (y.b % 2 == 0 && (y.c % 2 == 0 && y.d % 2 == 0))
def divZ (x : Zw) : Option Zw := if okZ x && evenZ (halfZ x) then some ⟨(halfZ x).a / 2, (halfZ x).b / 2, (halfZ x).c / 2, (halfZ x).d / 2⟩ else none
def okD (x : Dw) : Bool := okZ x.n && (inB x.e 0 60 && (x.e == 0 || (divZ x.n).isNone))
def redD : Nat → Zw → Zw × Nat
  | 0, n => (n, 0)
  | k + 1, n => match divZ n with
    | some m => redD k m
    | none => (n, k + 1)
def newD (n : Zw) (k : Int) : Option Dw := if okZ n && inB k 0 120 then (if 60 < (redD k.toNat n).2 then none else some ⟨(redD k.toNat n).1, ((redD k.toNat n).2 : Nat)⟩) else none
def root2 : Zw := ⟨0, 1, 0, -1⟩
def upZ : Nat → Zw → Option Zw
  | 0, n => some n
  | k + 1, n => match mulZ n root2 with
    | some m => upZ k m
    | none => none
def maxI (a b : Int) : Int := if a > b then a else b
def addD (x y : Dw) : Option Dw :=
  if okD x && okD y then
    match upZ (maxI x.e y.e - x.e).toNat x.n, upZ (maxI x.e y.e - y.e).toNat y.n with
    | some a, some b => match addZ a b with
      | some n => newD n (maxI x.e y.e)
      | none => none
    | _, _ => none
  else none
def mulD (x y : Dw) : Option Dw :=
  if okD x && okD y then
    match mulZ x.n y.n with
    | some n => newD n (x.e + y.e)
    | none => none
  else none
def negD (x : Dw) : Dw := if okD x then ⟨negZ x.n, x.e⟩ else Dw.zero
def phZ (k : Nat) : Zw := match k % 8 with
  | 0 => ⟨1, 0, 0, 0⟩
  | 1 => ⟨0, 1, 0, 0⟩
  | 2 => ⟨0, 0, 1, 0⟩
  | 3 => ⟨0, 0, 0, 1⟩
  | 4 => ⟨-1, 0, 0, 0⟩
  | 5 => ⟨0, -1, 0, 0⟩
  | 6 => ⟨0, 0, -1, 0⟩
  | _ => ⟨0, 0, 0, -1⟩
def phD (k : Nat) : Dw := ⟨phZ k, 0⟩
def isqD : Dw := ⟨⟨1, 0, 0, 0⟩, 1⟩
def cntQ (n : Nat) : Nat := if n = 2 then 1 else if n = 4 then 2 else if n = 8 then 3 else if n = 16 then 4 else 0
def okS (v : List Dw) : Bool := v.all okD && decide (0 < cntQ v.length)

/-- Is bit q of i set? -/
def bitB (i q : Nat) : Bool := i / 2 ^ q % 2 == 1
def flipN (i q : Nat) : Nat := if bitB i q then i - 2 ^ q else i + 2 ^ q
def phG (i : Nat) (turn : Bool) (k : Nat) : List (Nat × Dw) := [(i, phD (if turn then k else 0))]
def flG (i q : Nat) (turn : Bool) : List (Nat × Dw) := [(if turn then flipN i q else i, phD 0)]
def goes (g : Gt) (i : Nat) : List (Nat × Dw) :=
  let p := g.a.toNat
  let q := g.b.toNat
  let r := g.c.toNat
  let a := bitB i p
  let b := bitB i q
  if g.k = 1 then flG i p true
  else if g.k = 2 then [(flipN i p, phD (if a then 6 else 2))]
  else if g.k = 3 then phG i a 4
  else if g.k = 5 then phG i a 2
  else if g.k = 6 then phG i a 6
  else if g.k = 7 then phG i a 1
  else if g.k = 8 then phG i a 7
  else if g.k = 9 then flG i q a
  else if g.k = 10 then phG i (a && b) 4
  else if g.k = 12 then flG i r (a && b)
  else if g.k = 11 then [(if a != b then flipN (flipN i p) q else i, phD 0)]
  else [(if a then flipN i p else i, isqD), (if a then i else flipN i p, if a then negD isqD else isqD)]
def putD (x : Dw) (out : List Dw) (t : Nat × Dw) : Option (List Dw) :=
  match mulD x t.2 with
  | some y => match addD (out.getD t.1 Dw.zero) y with
    | some z => some (out.set t.1 z)
    | none => none
  | none => none
def putAll (x : Dw) : List (Nat × Dw) → List Dw → Option (List Dw)
  | [], out => some out
  | t :: r, out => match putD x out t with
    | some o => putAll x r o
    | none => none
def appL (g : Gt) : Nat → List Dw → List Dw → Option (List Dw)
  | _, [], out => some out
  | i, x :: r, out => if x = Dw.zero then appL g (i + 1) r out else
    match putAll x (goes g i) out with
    | some o => appL g (i + 1) r o
    | none => none
def appG (g : Gt) (v : List Dw) : Option (List Dw) := if okS v && okG g.k g.a g.b g.c (cntQ v.length : Nat) then appL g 0 v (List.replicate v.length Dw.zero) else none
def appGL : List Gt → List Dw → Option (List Dw)
  | [], v => some v
  | g :: r, v => match appG g v with
    | some o => appGL r o
    | none => none
def appGs (gs : List Gt) (v : List Dw) : Option (List Dw) := if okS v then appGL gs v else none
def basis (n i : Nat) : List Dw := (List.replicate (2 ^ n) Dw.zero).set i ⟨⟨1, 0, 0, 0⟩, 0⟩
end Go.Proofs.Ytibhikngiceeeaa
namespace Go.Proofs.Ytibhikngiceeeaa
open Go.RowKit
set_option linter.unusedVariables false

section
variable {α : Type} {f : α → List Value} {s : Nat}
theorem fm_length (hf : ∀ x, (f x).length = s) (l : List α) : (l.flatMap f).length = l.length * s := by
  induction l with
  | nil => simp
  | cons x r ih => simp only [List.flatMap_cons, List.length_append, hf, ih, List.length_cons, Nat.add_mul]; omega
theorem fm_drop (hf : ∀ x, (f x).length = s) (l : List α) (k : Nat) : (l.drop k).flatMap f = (l.flatMap f).drop (k * s) := by
  induction k generalizing l with
  | zero => simp
  | succ k ih =>
    cases l with
    | nil => simp
    | cons x r =>
      rw [List.drop_succ_cons, ih r, List.flatMap_cons, show (k + 1) * s = s + k * s by rw [Nat.add_mul]; omega, ← List.drop_drop]
      congr 1
      rw [List.drop_append_of_le_length (by rw [hf]; exact Nat.le_refl _), List.drop_eq_nil_of_le (by rw [hf]; exact Nat.le_refl _)]
      rfl
theorem fm_take (hf : ∀ x, (f x).length = s) (l : List α) (k : Nat) : (l.take k).flatMap f = (l.flatMap f).take (k * s) := by
  induction k generalizing l with
  | zero => simp
  | succ k ih =>
    cases l with
    | nil => simp
    | cons x r =>
      rw [List.take_succ_cons, List.flatMap_cons, ih r, List.flatMap_cons, show (k + 1) * s = s + k * s by rw [Nat.add_mul]; omega, List.take_append, hf, Nat.add_sub_cancel_left]
      rw [List.take_of_length_le (l := f x) (by rw [hf]; omega)]
theorem fm_at (hf : ∀ x, (f x).length = s) {l r : List α} {k j : Nat} {x : α} (h : l.drop k = x :: r) (hj : j < s) : (l.flatMap f)[k * s + j]? = (f x)[j]? := by
  have e : (l.flatMap f).drop (k * s) = f x ++ r.flatMap f := by rw [← fm_drop hf, h]; rfl
  have h2 : (l.flatMap f)[k * s + j]? = ((l.flatMap f).drop (k * s))[j]? := by rw [List.getElem?_drop]
  rw [h2, e, List.getElem?_append_left (by rw [hf]; exact hj)]
theorem fm_set (hf : ∀ x, (f x).length = s) {l : List α} {k : Nat} {y : α} (hk : k < l.length) : (l.set k y).flatMap f = (l.flatMap f).take (k * s) ++ (f y ++ (l.flatMap f).drop ((k + 1) * s)) := by
  rw [List.set_eq_take_append_cons_drop, if_pos hk, List.flatMap_append, List.flatMap_cons, fm_take hf, fm_drop hf]
theorem fm_split (hf : ∀ x, (f x).length = s) {l r : List α} {k : Nat} {x : α} (h : l.drop k = x :: r) : l.flatMap f = (l.flatMap f).take (k * s) ++ (f x ++ (l.flatMap f).drop ((k + 1) * s)) := by
  have h2 : l.drop (k + 1) = r := by
    have := congrArg List.tail h
    rwa [List.tail_drop] at this
  rw [← fm_drop hf, h2, ← fm_take hf]
  have e : l = l.take k ++ x :: r := by rw [← h, List.take_append_drop]
  have e2 := congrArg (fun z => z.flatMap f) e
  simp only [List.flatMap_append, List.flatMap_cons] at e2
  exact e2
end

def Zw.cells (x : Zw) : List Value := [.int .i64 x.a, .int .i64 x.b, .int .i64 x.c, .int .i64 x.d]
def Dw.cells (x : Dw) : List Value := [.int .i64 x.n.a, .int .i64 x.n.b, .int .i64 x.n.c, .int .i64 x.n.d, .int .i64 x.e]
def sentC (x : Nat × Dw) : List Value := [.int .i64 (x.1 : Int), .int .i64 x.2.n.a, .int .i64 x.2.n.b, .int .i64 x.2.n.c, .int .i64 x.2.n.d, .int .i64 x.2.e]
def cellsD (vs : List Dw) : List Value := vs.flatMap Dw.cells
def cellsS (vs : List (Nat × Dw)) : List Value := vs.flatMap sentC
theorem length_Dw (x : Dw) : x.cells.length = 5 := rfl
theorem length_sent (x : Nat × Dw) : (sentC x).length = 6 := rfl
theorem length_cellsD (vs : List Dw) : (cellsD vs).length = vs.length * 5 := fm_length length_Dw vs
theorem cellsD_append (a b : List Dw) : cellsD (a ++ b) = cellsD a ++ cellsD b := by simp [cellsD]
theorem one_cellsD {vs : List Dw} : ∀ u ∈ cellsD vs, u.oneCell' = true := by
  intro u hu
  simp only [cellsD, List.mem_flatMap, Dw.cells] at hu
  obtain ⟨g, _, hg⟩ := hu
  simp at hg
  rcases hg with rfl | rfl | rfl | rfl | rfl <;> rfl
def RdD (w : World) (A : Option Addr) (n : Nat) (vs : List Dw) : Prop := vs.length = n ∧ Rd w 5 A n (cellsD vs)
def RdSn (w : World) (A : Option Addr) (n : Nat) (vs : List (Nat × Dw)) : Prop := vs.length = n ∧ Rd w 6 A n (cellsS vs)
section
variable {w w' : World} {n : Nat} {A : Option Addr}
theorem RdD.at_ {vs : List Dw} (h : RdD w A n vs) {k : Nat} (hk : k < n) : ∃ (b off : Nat) (x : Dw), A = some ⟨b, off, none⟩ ∧ b < w.heap.size ∧ vs.drop k = x :: vs.drop (k + 1) ∧
    w.cell? ⟨b, off + k * 5, none⟩ = some (.int .i64 x.n.a) ∧ w.cell? ⟨b, off + k * 5 + 1, none⟩ = some (.int .i64 x.n.b) ∧ w.cell? ⟨b, off + k * 5 + 2, none⟩ = some (.int .i64 x.n.c) ∧ w.cell? ⟨b, off + k * 5 + 3, none⟩ = some (.int .i64 x.n.d) ∧ w.cell? ⟨b, off + k * 5 + 4, none⟩ = some (.int .i64 x.e) := by
  obtain ⟨hl, hr⟩ := h
  obtain ⟨b, off, e, hb, hc⟩ := hr.2 (by omega)
  have hd := drop_cons (l := vs) (k := k) (by omega)
  have f := fun j hj => fm_at length_Dw (j := j) hd hj
  exact ⟨b, off, _, e, hb, hd, hc _ _ (f 0 (by omega)), hc _ _ (f 1 (by omega)), hc _ _ (f 2 (by omega)), hc _ _ (f 3 (by omega)), hc _ _ (f 4 (by omega))⟩
theorem RdSn.at_ {vs : List (Nat × Dw)} (h : RdSn w A n vs) {k : Nat} (hk : k < n) : ∃ (b off : Nat) (x : Nat × Dw), A = some ⟨b, off, none⟩ ∧ b < w.heap.size ∧ vs.drop k = x :: vs.drop (k + 1) ∧
    w.cell? ⟨b, off + k * 6, none⟩ = some (.int .i64 (x.1 : Int)) ∧ w.cell? ⟨b, off + k * 6 + 1, none⟩ = some (.int .i64 x.2.n.a) ∧ w.cell? ⟨b, off + k * 6 + 2, none⟩ = some (.int .i64 x.2.n.b) ∧ w.cell? ⟨b, off + k * 6 + 3, none⟩ = some (.int .i64 x.2.n.c) ∧ w.cell? ⟨b, off + k * 6 + 4, none⟩ = some (.int .i64 x.2.n.d) ∧ w.cell? ⟨b, off + k * 6 + 5, none⟩ = some (.int .i64 x.2.e) := by
  obtain ⟨hl, hr⟩ := h
  obtain ⟨b, off, e, hb, hc⟩ := hr.2 (by omega)
  have hd := drop_cons (l := vs) (k := k) (by omega)
  have f := fun j hj => fm_at length_sent (j := j) hd hj
  exact ⟨b, off, _, e, hb, hd, hc _ _ (f 0 (by omega)), hc _ _ (f 1 (by omega)), hc _ _ (f 2 (by omega)), hc _ _ (f 3 (by omega)), hc _ _ (f 4 (by omega)), hc _ _ (f 5 (by omega))⟩
theorem RdD.below {vs : List Dw} (h : RdD w A n vs) (hb : Below w.heap.size w w') : RdD w' A n vs := ⟨h.1, h.2.below hb⟩
theorem RdD.alloc {vs : List Dw} (h : RdD w A n vs) (o : Obj) : RdD (w.alloc o) A n vs := ⟨h.1, h.2.alloc o⟩
theorem RdD.drew {vs : List Dw} (h : RdD w A n vs) : RdD w.drew A n vs := h
theorem RdD.drewN {vs : List Dw} (h : RdD w A n vs) (k : Nat) : RdD (w.drewN k) A n vs := h
theorem RdSn.below {vs : List (Nat × Dw)} (h : RdSn w A n vs) (hb : Below w.heap.size w w') : RdSn w' A n vs := ⟨h.1, h.2.below hb⟩
theorem RdSn.alloc {vs : List (Nat × Dw)} (h : RdSn w A n vs) (o : Obj) : RdSn (w.alloc o) A n vs := ⟨h.1, h.2.alloc o⟩
theorem RdSn.drew {vs : List (Nat × Dw)} (h : RdSn w A n vs) : RdSn w.drew A n vs := h
theorem RdD.own {base : Nat} {e : TypeId} {c : Nat} {vs : List Dw} (h : w.ownsRow base e 5 (.slice A n c) n (cellsD vs)) : RdD w A n vs := ⟨by
  have h1 := h.1
  have h2 := length_cellsD vs
  omega, Rd.own h⟩
theorem RdSn.own {base : Nat} {e : TypeId} {c : Nat} {vs : List (Nat × Dw)} (h : w.ownsRow base e 6 (.slice A n c) n (cellsS vs)) : RdSn w A n vs := ⟨by
  have h1 := h.1
  have h2 : (cellsS vs).length = vs.length * 6 := fm_length length_sent vs
  omega, Rd.own h⟩
end
theorem set5 {P S : List Value} {k : Nat} (hP : P.length = k * 5) {a b c d e a' b' c' d' e' : Value} :
    (((((P ++ ([a, b, c, d, e] ++ S)).set (k * 5) a').set (k * 5 + 1) b').set (k * 5 + 2) c').set (k * 5 + 3) d').set (k * 5 + 4) e' = P ++ ([a', b', c', d', e'] ++ S) := by
  rw [← hP]
  simp
/-- The cells of a row after a whole element has been stored. -/
theorem setD {vs : List Dw} {k : Nat} (hk : k < vs.length) (y : Dw) :
    ((((((cellsD vs).set (k * 5) (.int .i64 y.n.a)).set (k * 5 + 1) (.int .i64 y.n.b)).set (k * 5 + 2) (.int .i64 y.n.c)).set (k * 5 + 3) (.int .i64 y.n.d)).set (k * 5 + 4) (.int .i64 y.e)) = cellsD (vs.set k y) := by
  have hd := drop_cons (l := vs) (k := k) hk
  have e1 : cellsD vs = _ := fm_split length_Dw hd
  have e2 : cellsD (vs.set k y) = _ := fm_set length_Dw hk
  have hl : ((vs.flatMap Dw.cells).take (k * 5)).length = k * 5 := by
    rw [List.length_take, fm_length length_Dw]
    omega
  rw [e2, e1]
  exact set5 hl
end Go.Proofs.Ytibhikngiceeeaa
namespace Go.Proofs.Ytibhikngiceeeaa
open Go.RowKit
set_option linter.unusedVariables false

theorem near_bd {x : Int} (h : nearB x = true) : -1073741824 ≤ x ∧ x ≤ 1073741824 := by
  unfold nearB at h
  rcases inB_casesQ x (-1073741824) 1073741824 with ⟨_, h1⟩ | ⟨h1, _⟩
  · exact h1
  · rw [h1] at h; cases h
theorem okZ_near {x : Zw} (h : okZ x = true) : nearB x.a = true ∧ nearB x.b = true ∧ nearB x.c = true ∧ nearB x.d = true := by
  simpa [okZ] using h
theorem okZ_bd {x : Zw} (h : okZ x = true) : (-1073741824 ≤ x.a ∧ x.a ≤ 1073741824) ∧ (-1073741824 ≤ x.b ∧ x.b ≤ 1073741824) ∧ (-1073741824 ≤ x.c ∧ x.c ≤ 1073741824) ∧ (-1073741824 ≤ x.d ∧ x.d ≤ 1073741824) := by
  obtain ⟨h1, h2, h3, h4⟩ := okZ_near h
  exact ⟨near_bd h1, near_bd h2, near_bd h3, near_bd h4⟩
theorem mul_bd {x y : Int} (hx : -1073741824 ≤ x ∧ x ≤ 1073741824) (hy : -1073741824 ≤ y ∧ y ≤ 1073741824) : -1152921504606846976 ≤ x * y ∧ x * y ≤ 1152921504606846976 := by
  have h1 : (x.natAbs : Int) ≤ 1073741824 := by omega
  have h2 : (y.natAbs : Int) ≤ 1073741824 := by omega
  have h3 : x.natAbs * y.natAbs ≤ 1073741824 * 1073741824 := Nat.mul_le_mul (by omega) (by omega)
  rw [← Int.natAbs_mul] at h3
  omega

theorem s_l2Near (n : Int) (w : World) : Calls Try.prog 183 #[.int .i64 n] w fun e w' => e = .returned (.bool (nearB n)) ∧ w = w' := by
  go_enter Try.func183, Try.ntmps183
  go_wp2_with fail
  refine (s_in _ _ _ _).mono ?_
  rintro e w1 ⟨rfl, rfl⟩
  go_wp2_with fail
  go_ret
  exact ⟨rfl, rfl⟩

set_option maxHeartbeats 800000 in
theorem s_IsValidZ (x : Zw) (w : World) : Calls Try.prog 172 #[.agg #[.int .i64 x.a, .int .i64 x.b, .int .i64 x.c, .int .i64 x.d]] w fun e w' => e = .returned (.bool (okZ x)) ∧ Below w.heap.size w w' := by
  have hB : Below w.heap.size w (w.alloc (.cells #[.int .i64 x.a, .int .i64 x.b, .int .i64 x.c, .int .i64 x.d] 81)) := (Below.refl _ _).alloc (Nat.le_refl _) _
  have X0 := Bx.new w 81 #[.int .i64 x.a, .int .i64 x.b, .int .i64 x.c, .int .i64 x.d]
  obtain ⟨q0, q1, q2, q3, _⟩ := X0.four
  have HB := Lib.hid hB
  clear hB X0
  have e0 : okZ x = (nearB x.a && (nearB x.b && (nearB x.c && nearB x.d))) := rfl
  rw [e0]
  clear e0
  obtain ⟨na, ha⟩ : ∃ y, nearB x.a = y := ⟨_, rfl⟩
  obtain ⟨nb, hb⟩ : ∃ y, nearB x.b = y := ⟨_, rfl⟩
  obtain ⟨nc, hc⟩ : ∃ y, nearB x.c = y := ⟨_, rfl⟩
  obtain ⟨nd, hd⟩ : ∃ y, nearB x.d = y := ⟨_, rfl⟩
  rw [ha, hb, hc, hd]
  have HA := Lib.hid ha
  have HB' := Lib.hid hb
  have HC := Lib.hid hc
  have HD := Lib.hid hd
  clear ha hb hc hd
  go_enter Try.func172, Try.ntmps172
  go_wp2_with fail
  refine (s_l2Near _ _).mono ?_
  rintro e w1 ⟨rfl, rfl⟩
  rw [HA.out]
  cases na
  · go_wp2_with fail
    go_ret
    exact ⟨rfl, HB.out⟩
  · go_wp2_with fail
    refine (s_l2Near _ _).mono ?_
    rintro e w1 ⟨rfl, rfl⟩
    rw [HB'.out]
    cases nb
    · go_wp2_with fail
      go_ret
      exact ⟨rfl, HB.out⟩
    · go_wp2_with fail
      refine (s_l2Near _ _).mono ?_
      rintro e w1 ⟨rfl, rfl⟩
      rw [HC.out]
      cases nc
      · go_wp2_with fail
        go_ret
        exact ⟨rfl, HB.out⟩
      · go_wp2_with fail
        refine (s_l2Near _ _).mono ?_
        rintro e w1 ⟨rfl, rfl⟩
        rw [HD.out]
        go_wp2_with fail
        go_ret
        exact ⟨by cases nd <;> rfl, HB.out⟩

/-- A box that holds a number of Z[omega], and the frame. -/
def ZB (w : World) (g : Nat) (x : Zw) (wx : World) : Prop := Bx wx g 81 #[.int .i64 x.a, .int .i64 x.b, .int .i64 x.c, .int .i64 x.d] ∧ Below w.heap.size w wx ∧ w.heap.size ≤ g
section
variable {w wx w' : World} {g : Nat} {x y : Zw}
theorem ZB.below (h : ZB w g x wx) (hb : Below wx.heap.size wx w') : ZB w g x w' := ⟨h.1.below hb, below_trans h.2.1 hb, h.2.2⟩
theorem ZB.cells (h : ZB w g x wx) : wx.cell? ⟨g, 0, none⟩ = some (.int .i64 x.a) ∧ wx.cell? ⟨g, 1, none⟩ = some (.int .i64 x.b) ∧ wx.cell? ⟨g, 2, none⟩ = some (.int .i64 x.c) ∧ wx.cell? ⟨g, 3, none⟩ = some (.int .i64 x.d) ∧ wx.frozen? ⟨g, 0, none⟩ = false ∧ wx.frozen? ⟨g, 1, none⟩ = false ∧ wx.frozen? ⟨g, 2, none⟩ = false ∧ wx.frozen? ⟨g, 3, none⟩ = false := h.1.four
abbrev set4 (w : World) (g : Nat) (y : Zw) : World := (((w.setCell ⟨g, 0, none⟩ (.int .i64 y.a)).setCell ⟨g, 1, none⟩ (.int .i64 y.b)).setCell ⟨g, 2, none⟩ (.int .i64 y.c)).setCell ⟨g, 3, none⟩ (.int .i64 y.d)
theorem ZB.set (h : ZB w g x wx) (y : Zw) : ZB w g y (set4 wx g y) := by
  refine ⟨(((h.1.set_ 0 _).set_ 1 _).set_ 2 _).set_ 3 _, ?_, h.2.2⟩
  exact (((h.2.1.setCell h.2.2 _).setCell h.2.2 _).setCell h.2.2 _).setCell h.2.2 _
theorem ZB.far {g' : Nat} (h : ZB w g x wx) (hne : g ≠ g') (hg : w.heap.size ≤ g') (y : Zw) : ZB w g x (set4 wx g' y) :=
  ⟨(((h.1.far hne _).far hne _).far hne _).far hne _, (((h.2.1.setCell hg _).setCell hg _).setCell hg _).setCell hg _, h.2.2⟩
end

set_option maxHeartbeats 800000 in
theorem s_l2If (x : Zw) (w : World) (h : okZ x = true) : Calls Try.prog 185 #[.agg #[.int .i64 x.a, .int .i64 x.b, .int .i64 x.c, .int .i64 x.d]] w fun e w' => e = .returned (.tuple #[.agg #[.int .i64 x.a, .int .i64 x.b, .int .i64 x.c, .int .i64 x.d], .bool true]) ∧ Below w.heap.size w w' := by
  have H := Lib.hid h
  have X0 := Lib.hid (show ZB w w.heap.size x ((w.alloc (.cells #[.int .i64 x.a, .int .i64 x.b, .int .i64 x.c, .int .i64 x.d] 81)).alloc (.cells #[.int .i64 Zw.zero.a, .int .i64 Zw.zero.b, .int .i64 Zw.zero.c, .int .i64 Zw.zero.d] 81)) from ⟨(Bx.new w _ _).alloc _, ((Below.refl _ _).alloc (Nat.le_refl _) _).alloc (by simp) _, Nat.le_refl _⟩)
  have R0 := Lib.hid (show ZB w (w.heap.size + 1) Zw.zero ((w.alloc (.cells #[.int .i64 x.a, .int .i64 x.b, .int .i64 x.c, .int .i64 x.d] 81)).alloc (.cells #[.int .i64 Zw.zero.a, .int .i64 Zw.zero.b, .int .i64 Zw.zero.c, .int .i64 Zw.zero.d] 81)) from ⟨Bx.new' (by simp), ((Below.refl _ _).alloc (Nat.le_refl _) _).alloc (by simp) _, by omega⟩)
  clear h
  go_enter Try.func185, Try.ntmps185
  go_wp2_with fail
  refine (s_IsValidZ x _).mono ?_
  rintro e w1 ⟨rfl, b1⟩
  rw [H.out]
  have X1 := Lib.hid (X0.out.below b1)
  have R1 := Lib.hid (R0.out.below b1)
  clear b1 X0 R0
  obtain ⟨q0, q1, q2, q3, _⟩ := X1.out.cells
  obtain ⟨r0, r1, r2, r3, f0, f1, f2, f3⟩ := R1.out.cells
  go_wp2_with fail
  obtain ⟨c0, c1, c2, c3, _⟩ := (R1.out.set x).cells
  simp only [set4] at c0 c1 c2 c3
  exact bodyPost_ret (v := .tuple #[.agg #[.int .i64 x.a, .int .i64 x.b, .int .i64 x.c, .int .i64 x.d], .bool true]) (by simp [results, Try.results185, go_sem, c0, c1, c2, c3]) rfl ⟨rfl, (R1.out.set x).2.1⟩

theorem addZ_some {x y z : Zw} (h : addZ x y = some z) : okZ x = true ∧ okZ y = true ∧ okZ z = true ∧ z = ⟨x.a + y.a, x.b + y.b, x.c + y.c, x.d + y.d⟩ := by
  unfold addZ at h
  split at h
  · rename_i h1
    simp only [Bool.and_eq_true] at h1
    unfold ifZ at h
    split at h
    · rename_i h2
      injection h with h
      subst h
      exact ⟨h1.1, h1.2, h2, rfl⟩
    · cases h
  · cases h
theorem mulZ_some {x y z : Zw} (h : mulZ x y = some z) : okZ x = true ∧ okZ y = true ∧ okZ z = true ∧ z = timesZ x y := by
  unfold mulZ at h
  split at h
  · rename_i h1
    simp only [Bool.and_eq_true] at h1
    unfold ifZ at h
    split at h
    · rename_i h2
      injection h with h
      subst h
      exact ⟨h1.1, h1.2, h2, rfl⟩
    · cases h
  · cases h
/-- Three boxes: two that are read, one for what comes out. -/
def Z3 (w : World) (x y r : Zw) (wx : World) : Prop := ZB w w.heap.size x wx ∧ ZB w (w.heap.size + 1) y wx ∧ ZB w (w.heap.size + 2) r wx
theorem Z3.below {w wx w' : World} {x y r : Zw} (h : Z3 w x y r wx) (hb : Below wx.heap.size wx w') : Z3 w x y r w' := ⟨h.1.below hb, h.2.1.below hb, h.2.2.below hb⟩
theorem Z3.new (w : World) (x y : Zw) : Z3 w x y Zw.zero (((w.alloc (.cells #[.int .i64 x.a, .int .i64 x.b, .int .i64 x.c, .int .i64 x.d] 81)).alloc (.cells #[.int .i64 y.a, .int .i64 y.b, .int .i64 y.c, .int .i64 y.d] 81)).alloc (.cells #[.int .i64 Zw.zero.a, .int .i64 Zw.zero.b, .int .i64 Zw.zero.c, .int .i64 Zw.zero.d] 81)) := by
  have h1 : Below w.heap.size w (w.alloc (.cells #[.int .i64 x.a, .int .i64 x.b, .int .i64 x.c, .int .i64 x.d] 81)) := (Below.refl _ _).alloc (Nat.le_refl _) _
  have h2 := h1.alloc h1.size (.cells #[.int .i64 y.a, .int .i64 y.b, .int .i64 y.c, .int .i64 y.d] 81)
  have hb := h2.alloc h2.size (.cells #[.int .i64 Zw.zero.a, .int .i64 Zw.zero.b, .int .i64 Zw.zero.c, .int .i64 Zw.zero.d] 81)
  exact ⟨⟨((Bx.new w _ _).alloc _).alloc _, hb, Nat.le_refl _⟩, ⟨(Bx.new' (by simp)).alloc _, hb, by omega⟩, ⟨Bx.new' (by simp), hb, by omega⟩⟩

set_option maxHeartbeats 1600000 in
theorem s_AddZ (x y z : Zw) (w : World) (h : addZ x y = some z) : Calls Try.prog 180 #[.agg #[.int .i64 x.a, .int .i64 x.b, .int .i64 x.c, .int .i64 x.d], .agg #[.int .i64 y.a, .int .i64 y.b, .int .i64 y.c, .int .i64 y.d]] w fun e w' => e = .returned (.tuple #[.agg #[.int .i64 z.a, .int .i64 z.b, .int .i64 z.c, .int .i64 z.d], .bool true]) ∧ Below w.heap.size w w' := by
  obtain ⟨hx, hy, hz, he⟩ := addZ_some h
  have HE := Lib.hid he
  rw [he] at hz
  have HX := Lib.hid hx
  have HY := Lib.hid hy
  have HZ := Lib.hid hz
  have bx := okZ_bd hx
  have b_y := okZ_bd hy
  have Z0 := Lib.hid (Z3.new w x y)
  clear h hx hy hz he
  go_enter Try.func180, Try.ntmps180
  go_wp2_with fail
  refine (s_IsValidZ x _).mono ?_
  rintro e w1 ⟨rfl, b1⟩
  rw [HX.out]
  have Z1 := Lib.hid (Z0.out.below b1)
  clear b1 Z0
  obtain ⟨p0, p1, p2, p3, _⟩ := Z1.out.2.1.cells
  go_wp2_with fail
  refine (s_IsValidZ y _).mono ?_
  rintro e w2 ⟨rfl, b2⟩
  rw [HY.out]
  have Z2 := Lib.hid (Z1.out.below b2)
  clear b2 Z1 p0 p1 p2 p3
  obtain ⟨q0, q1, q2, q3, _⟩ := Z2.out.1.cells
  obtain ⟨p0, p1, p2, p3, _⟩ := Z2.out.2.1.cells
  go_wp2_with fail
  refine (s_l2If ⟨x.a + y.a, x.b + y.b, x.c + y.c, x.d + y.d⟩ _ HZ.out).mono ?_
  rintro e w3 ⟨rfl, b3⟩
  have Z4 := Lib.hid (Z2.out.below b3)
  clear b3 Z2 p0 p1 p2 p3 q0 q1 q2 q3 bx b_y
  have e0 := congrArg Zw.a HE.out
  have e1 := congrArg Zw.b HE.out
  have e2 := congrArg Zw.c HE.out
  have e3 := congrArg Zw.d HE.out
  simp only at e0 e1 e2 e3
  rw [← e0, ← e1, ← e2, ← e3]
  clear e0 e1 e2 e3
  obtain ⟨r0, r1, r2, r3, f0, f1, f2, f3⟩ := Z4.out.2.2.cells
  go_wp2_with fail
  obtain ⟨c0, c1, c2, c3, _⟩ := (Z4.out.2.2.set z).cells
  simp only [set4] at c0 c1 c2 c3
  exact bodyPost_ret (v := .tuple #[.agg #[.int .i64 z.a, .int .i64 z.b, .int .i64 z.c, .int .i64 z.d], .bool true]) (by simp [results, Try.results180, go_sem, c0, c1, c2, c3]) rfl ⟨rfl, (Z4.out.2.2.set _).2.1⟩

set_option maxHeartbeats 1600000 in
theorem s_MulZ (x y z : Zw) (w : World) (h : mulZ x y = some z) : Calls Try.prog 177 #[.agg #[.int .i64 x.a, .int .i64 x.b, .int .i64 x.c, .int .i64 x.d], .agg #[.int .i64 y.a, .int .i64 y.b, .int .i64 y.c, .int .i64 y.d]] w fun e w' => e = .returned (.tuple #[.agg #[.int .i64 z.a, .int .i64 z.b, .int .i64 z.c, .int .i64 z.d], .bool true]) ∧ Below w.heap.size w w' := by
  obtain ⟨hx, hy, hz, he⟩ := mulZ_some h
  have HE := Lib.hid he
  rw [he] at hz
  have HX := Lib.hid hx
  have HY := Lib.hid hy
  have HZ := Lib.hid hz
  have BX := Lib.hid (okZ_bd hx)
  have BY := Lib.hid (okZ_bd hy)
  have Z0 := Lib.hid (Z3.new w x y)
  clear h hx hy hz he
  go_enter Try.func177, Try.ntmps177
  go_wp2_with fail
  refine (s_IsValidZ x _).mono ?_
  rintro e w1 ⟨rfl, b1⟩
  rw [HX.out]
  have Z1 := Lib.hid (Z0.out.below b1)
  clear b1 Z0
  obtain ⟨p0, p1, p2, p3, _⟩ := Z1.out.2.1.cells
  go_wp2_with fail
  refine (s_IsValidZ y _).mono ?_
  rintro e w2 ⟨rfl, b2⟩
  rw [HY.out]
  have Z2 := Lib.hid (Z1.out.below b2)
  clear b2 Z1 p0 p1 p2 p3
  obtain ⟨q0, q1, q2, q3, _⟩ := Z2.out.1.cells
  obtain ⟨p0, p1, p2, p3, _⟩ := Z2.out.2.1.cells
  obtain ⟨xa, xb, xc, xd⟩ := BX.out
  obtain ⟨ya, yb, yc, yd⟩ := BY.out
  have maa := mul_bd xa ya
  have mab := mul_bd xa yb
  have mac := mul_bd xa yc
  have mad := mul_bd xa yd
  have mba := mul_bd xb ya
  have mbb := mul_bd xb yb
  have mbc := mul_bd xb yc
  have mbd := mul_bd xb yd
  have mca := mul_bd xc ya
  have mcb := mul_bd xc yb
  have mcc := mul_bd xc yc
  have mcd := mul_bd xc yd
  have mda := mul_bd xd ya
  have mdb := mul_bd xd yb
  have mdc := mul_bd xd yc
  have mdd := mul_bd xd yd
  clear xa xb xc xd ya yb yc yd
  go_wp2_with fail
  refine (s_l2If (timesZ x y) _ HZ.out).mono ?_
  rintro e w3 ⟨rfl, b3⟩
  have Z4 := Lib.hid (Z2.out.below b3)
  clear b3 Z2 p0 p1 p2 p3 q0 q1 q2 q3
  obtain ⟨r0, r1, r2, r3, f0, f1, f2, f3⟩ := Z4.out.2.2.cells
  rw [← HE.out]
  go_wp2_with fail
  obtain ⟨c0, c1, c2, c3, _⟩ := (Z4.out.2.2.set z).cells
  simp only [set4] at c0 c1 c2 c3
  exact bodyPost_ret (v := .tuple #[.agg #[.int .i64 z.a, .int .i64 z.b, .int .i64 z.c, .int .i64 z.d], .bool true]) (by simp [results, Try.results177, go_sem, c0, c1, c2, c3]) rfl ⟨rfl, (Z4.out.2.2.set _).2.1⟩
end Go.Proofs.Ytibhikngiceeeaa
namespace Go.Proofs.Ytibhikngiceeeaa
open Go.RowKit
set_option linter.unusedVariables false

/-- Two boxes of Z[omega]. -/
def Z2 (w : World) (x r : Zw) (wx : World) : Prop := ZB w w.heap.size x wx ∧ ZB w (w.heap.size + 1) r wx
theorem Z2.below {w wx w' : World} {x r : Zw} (h : Z2 w x r wx) (hb : Below wx.heap.size wx w') : Z2 w x r w' := ⟨h.1.below hb, h.2.below hb⟩
theorem Z2.new (w : World) (x : Zw) : Z2 w x Zw.zero ((w.alloc (.cells #[.int .i64 x.a, .int .i64 x.b, .int .i64 x.c, .int .i64 x.d] 81)).alloc (.cells #[.int .i64 Zw.zero.a, .int .i64 Zw.zero.b, .int .i64 Zw.zero.c, .int .i64 Zw.zero.d] 81)) := by
  have h1 : Below w.heap.size w (w.alloc (.cells #[.int .i64 x.a, .int .i64 x.b, .int .i64 x.c, .int .i64 x.d] 81)) := (Below.refl _ _).alloc (Nat.le_refl _) _
  have hb := h1.alloc h1.size (.cells #[.int .i64 Zw.zero.a, .int .i64 Zw.zero.b, .int .i64 Zw.zero.c, .int .i64 Zw.zero.d] 81)
  exact ⟨⟨(Bx.new w _ _).alloc _, hb, Nat.le_refl _⟩, ⟨Bx.new' (by simp), hb, by omega⟩⟩

theorem divZ_some {x m : Zw} (h : divZ x = some m) : okZ x = true ∧ ((x.b - x.d) % 2 = 0 ∧ (x.a + x.c) % 2 = 0 ∧ (x.b + x.d) % 2 = 0 ∧ (x.c - x.a) % 2 = 0) ∧ m = ⟨(x.b - x.d) / 2, (x.a + x.c) / 2, (x.b + x.d) / 2, (x.c - x.a) / 2⟩ := by
  unfold divZ at h
  split at h
  · rename_i h1
    injection h with h
    simp only [Bool.and_eq_true, evenZ, halfZ, beq_iff_eq] at h1
    exact ⟨h1.1, ⟨h1.2.1, h1.2.2.1, h1.2.2.2.1, h1.2.2.2.2⟩, h.symm⟩
  · cases h

theorem tmod2 (a : Int) : a.tmod 2 = 0 ↔ a % 2 = 0 := by
  rw [← Int.dvd_iff_tmod_eq_zero, Int.dvd_iff_emod_eq_zero]
theorem tdiv2 {a : Int} (h : a % 2 = 0) : a.tdiv 2 = a / 2 := Int.tdiv_eq_ediv_of_dvd (Int.dvd_iff_emod_eq_zero.2 h)
theorem even_t {x : Zw} (h0 : (x.b - x.d).tmod 2 = 0) (h1 : (x.a + x.c).tmod 2 = 0) (h2 : (x.b + x.d).tmod 2 = 0) : ((x.c - x.a).tmod 2 != 0) = !evenZ (halfZ x) := by
  rw [tmod2] at h0 h1 h2
  unfold evenZ halfZ bne
  simp only [h0, h1, h2, beq_self_eq_true, Bool.true_and]
  by_cases h : (x.c - x.a) % 2 = 0
  · rw [(tmod2 _).2 h, h]
  · rw [beq_eq_false_iff_ne.2 h, beq_eq_false_iff_ne.2 (fun q => h ((tmod2 _).1 q))]
theorem even_f {x : Zw} (h : ¬ (x.b - x.d).tmod 2 = 0 ∨ ¬ (x.a + x.c).tmod 2 = 0 ∨ ¬ (x.b + x.d).tmod 2 = 0) : true = !evenZ (halfZ x) := by
  rw [tmod2, tmod2, tmod2] at h
  unfold evenZ halfZ
  rcases h with h | h | h <;> simp [h]
abbrev set0 (w : World) (g : Nat) : World := (((w.setCell ⟨g, 0, none⟩ (.int .i64 0)).setCell ⟨g, 1, none⟩ (.int .i64 0)).setCell ⟨g, 2, none⟩ (.int .i64 0)).setCell ⟨g, 3, none⟩ (.int .i64 0)
theorem ZB.set0c {w wx : World} {g : Nat} {x : Zw} (h : ZB w g x wx) : (set0 wx g).cell? ⟨g, 0, none⟩ = some (.int .i64 0) ∧ (set0 wx g).cell? ⟨g, 1, none⟩ = some (.int .i64 0) ∧ (set0 wx g).cell? ⟨g, 2, none⟩ = some (.int .i64 0) ∧ (set0 wx g).cell? ⟨g, 3, none⟩ = some (.int .i64 0) ∧ Below w.heap.size w (set0 wx g) := by
  obtain ⟨c0, c1, c2, c3, _⟩ := (h.set ⟨0, 0, 0, 0⟩).cells
  exact ⟨c0, c1, c2, c3, (h.set ⟨0, 0, 0, 0⟩).2.1⟩
theorem zero_val : (Value.agg #[.int .i64 Zw.zero.a, .int .i64 Zw.zero.b, .int .i64 Zw.zero.c, .int .i64 Zw.zero.d]) = .agg #[.int .i64 0, .int .i64 0, .int .i64 0, .int .i64 0] := rfl
def Half (w w1 : World) (x : Zw) (wx : World) : Prop := ZB w w1.heap.size (halfZ x) wx ∧ ZB w (w.heap.size + 1) Zw.zero wx
set_option maxHeartbeats 1600000 in
theorem s_DivZ (x : Zw) (w : World) (h : okZ x = true) : Calls Try.prog 171 #[.agg #[.int .i64 x.a, .int .i64 x.b, .int .i64 x.c, .int .i64 x.d]] w fun e w' => (∃ m, divZ x = some m ∧ e = .returned (.tuple #[.agg #[.int .i64 m.a, .int .i64 m.b, .int .i64 m.c, .int .i64 m.d], .bool true]) ∨ divZ x = none ∧ e = .returned (.tuple #[.agg #[.int .i64 Zw.zero.a, .int .i64 Zw.zero.b, .int .i64 Zw.zero.c, .int .i64 Zw.zero.d], .bool false])) ∧ Below w.heap.size w w' := by
  have HX := Lib.hid h
  have BX := Lib.hid (okZ_bd h)
  have Z0 := Lib.hid (Z2.new w x)
  clear h
  go_enter Try.func171, Try.ntmps171
  go_wp2_with fail
  refine (s_IsValidZ x _).mono ?_
  rintro e w1 ⟨rfl, b1⟩
  rw [HX.out]
  have Z1 := Lib.hid (Z0.out.below b1)
  clear b1 Z0
  obtain ⟨p0, p1, p2, p3, _⟩ := Z1.out.1.cells
  obtain ⟨xa, xb, xc, xd⟩ := BX.out
  go_upto_region 4 with fail
  go_cut [51] (fun v wx => v = .bool (!evenZ (halfZ x)) ∧ Half w w1 x wx)
  case first =>
    have hB := Z1.out.1.2.1.alloc (Below.size Z1.out.1.2.1) (.cells #[.int .i64 (x.b - x.d), .int .i64 (x.a + x.c), .int .i64 (x.b + x.d), .int .i64 (x.c - x.a)] 81)
    go_wp2_with fail
    all_goals go_meet
    all_goals
      refine ⟨?_, ⟨Bx.new w1 _ _, hB, Below.size Z1.out.1.2.1⟩, ⟨Z1.out.2.1.alloc _, hB, Z1.out.2.2.2⟩⟩
    all_goals first
      | exact congrArg Value.bool (even_t (by assumption) (by assumption) (by assumption))
      | exact congrArg Value.bool (even_f (.inl (by assumption)))
      | exact congrArg Value.bool (even_f (.inr (.inl (by assumption))))
      | exact congrArg Value.bool (even_f (.inr (.inr (by assumption))))
  case rest =>
    obtain ⟨rfl, hz⟩ := hcut
    have ZH := Lib.hid hz
    clear hz
    obtain ⟨q0, q1, q2, q3, _⟩ := ZH.out.1.cells
    obtain ⟨r0, r1, r2, r3, f0, f1, f2, f3⟩ := ZH.out.2.cells
    cases hev : evenZ (halfZ x)
    · have hn : divZ x = none := by unfold divZ; rw [HX.out, hev]; rfl
      have HN := Lib.hid hn
      clear hn hev
      go_wp2_with fail
      obtain ⟨c0, c1, c2, c3, hbz⟩ := ZH.out.2.set0c
      simp only [set0] at c0 c1 c2 c3 hbz
      refine bodyPost_ret (v := .tuple #[.agg #[.int .i64 0, .int .i64 0, .int .i64 0, .int .i64 0], .bool false]) (by simp [results, Try.results171, go_sem, c0, c1, c2, c3]) rfl ⟨⟨Zw.zero, .inr ⟨HN.out, ?_⟩⟩, hbz⟩
      rw [zero_val]
    · obtain ⟨m, hm⟩ : ∃ m : Zw, m = ⟨(halfZ x).a / 2, (halfZ x).b / 2, (halfZ x).c / 2, (halfZ x).d / 2⟩ := ⟨_, rfl⟩
      have hn : divZ x = some m := by rw [hm]; unfold divZ; rw [HX.out, hev]; rfl
      have HN := Lib.hid hn
      simp only [evenZ, Bool.and_eq_true, beq_iff_eq] at hev
      have t0 := Lib.hid (show (halfZ x).a.tdiv 2 = m.a by rw [hm]; exact tdiv2 hev.1)
      have t1 := Lib.hid (show (halfZ x).b.tdiv 2 = m.b by rw [hm]; exact tdiv2 hev.2.1)
      have t2 := Lib.hid (show (halfZ x).c.tdiv 2 = m.c by rw [hm]; exact tdiv2 hev.2.2.1)
      have t3 := Lib.hid (show (halfZ x).d.tdiv 2 = m.d by rw [hm]; exact tdiv2 hev.2.2.2)
      have hb : ((halfZ x).a = x.b - x.d ∧ (halfZ x).b = x.a + x.c) ∧ (halfZ x).c = x.b + x.d ∧ (halfZ x).d = x.c - x.a := ⟨⟨rfl, rfl⟩, rfl, rfl⟩
      have hb0 : -2147483648 ≤ (halfZ x).a ∧ (halfZ x).a ≤ 2147483648 := by omega
      have hb1 : -2147483648 ≤ (halfZ x).b ∧ (halfZ x).b ≤ 2147483648 := by omega
      have hb2 : -2147483648 ≤ (halfZ x).c ∧ (halfZ x).c ≤ 2147483648 := by omega
      have hb3 : -2147483648 ≤ (halfZ x).d ∧ (halfZ x).d ≤ 2147483648 := by omega
      clear hn hev hb hm
      go_wp2_with fail
      rw [t0.out, t1.out, t2.out, t3.out]
      obtain ⟨c0, c1, c2, c3, _⟩ := (ZH.out.2.set m).cells
      simp only [set4] at c0 c1 c2 c3
      exact bodyPost_ret (v := .tuple #[.agg #[.int .i64 m.a, .int .i64 m.b, .int .i64 m.c, .int .i64 m.d], .bool true]) (by simp [results, Try.results171, go_sem, c0, c1, c2, c3]) rfl ⟨⟨m, .inl ⟨HN.out, rfl⟩⟩, (ZH.out.2.set _).2.1⟩
end Go.Proofs.Ytibhikngiceeeaa
