/- Plain: numbers of D[omega], and how gates act on rows of them. No program in sight; nothing is asked. -/
import Derived.Test.YtgnallcfahpjmaaROkGate
namespace Go.Proofs.YtgnallcfahpjmaaR

structure Zw where
  a : Int
  b : Int
  c : Int
  d : Int
  deriving DecidableEq
structure Dw where
  n : Zw
  e : Int
  deriving DecidableEq
def Zw.zero : Zw := ⟨0, 0, 0, 0⟩
def Dw.zero : Dw := ⟨Zw.zero, 0⟩
def nearB (x : Int) : Bool := inB x (-1073741824) 1073741824
def okZ (x : Zw) : Bool := nearB x.a && (nearB x.b && (nearB x.c && nearB x.d))
def ifZ (x : Zw) : Option Zw := if okZ x then some x else none
def addZ (x y : Zw) : Option Zw := if okZ x && okZ y then ifZ ⟨x.a + y.a, x.b + y.b, x.c + y.c, x.d + y.d⟩ else none
def timesZ (x y : Zw) : Zw := ⟨x.a * y.a - x.b * y.d - x.c * y.c - x.d * y.b, x.a * y.b + x.b * y.a - x.c * y.d - x.d * y.c, x.a * y.c + x.b * y.b + x.c * y.a - x.d * y.d, x.a * y.d + x.b * y.c + x.c * y.b + x.d * y.a⟩
def mulZ (x y : Zw) : Option Zw := if okZ x && okZ y then ifZ (timesZ x y) else none
def negZ (x : Zw) : Zw := if okZ x then ⟨-x.a, -x.b, -x.c, -x.d⟩ else Zw.zero
def halfZ (x : Zw) : Zw := ⟨x.b - x.d, x.a + x.c, x.b + x.d, x.c - x.a⟩
def evenZ (y : Zw) : Bool := y.a % 2 == 0 && (y.b % 2 == 0 && (y.c % 2 == 0 && y.d % 2 == 0))
def divZ (x : Zw) : Option Zw := if okZ x && evenZ (halfZ x) then some ⟨(halfZ x).a / 2, (halfZ x).b / 2, (halfZ x).c / 2, (halfZ x).d / 2⟩ else none
def okD (x : Dw) : Bool := okZ x.n && (inB x.e 0 60 && (x.e == 0 || (divZ x.n).isNone))
def redD : Nat → Zw → Zw × Nat
  | 0, n => (n, 0)
  | k + 1, n => match divZ n with
    | some m => redD k m
    | none => (n, k + 1)
def newD (n : Zw) (k : Int) : Option Dw := if okZ n && inB k 0 120 then (if 60 < (redD k.toNat n).2 then none else some ⟨(redD k.toNat n).1, ((redD k.toNat n).2 : Nat)⟩) else none
def root2 : Zw := ⟨0, 1, 0, -1⟩
def upZ : Nat → Zw → Option Zw
  | 0, n => some n
  | k + 1, n => match mulZ n root2 with
    | some m => upZ k m
    | none => none
def maxI (a b : Int) : Int := if a > b then a else b
def addD (x y : Dw) : Option Dw :=
  if okD x && okD y then
    match upZ (maxI x.e y.e - x.e).toNat x.n, upZ (maxI x.e y.e - y.e).toNat y.n with
    | some a, some b => match addZ a b with
      | some n => newD n (maxI x.e y.e)
      | none => none
    | _, _ => none
  else none
def mulD (x y : Dw) : Option Dw :=
  if okD x && okD y then
    match mulZ x.n y.n with
    | some n => newD n (x.e + y.e)
    | none => none
  else none
def negD (x : Dw) : Dw := if okD x then ⟨negZ x.n, x.e⟩ else Dw.zero
def phZ (k : Nat) : Zw := match k % 8 with
  | 0 => ⟨1, 0, 0, 0⟩
  | 1 => ⟨0, 1, 0, 0⟩
  | 2 => ⟨0, 0, 1, 0⟩
  | 3 => ⟨0, 0, 0, 1⟩
  | 4 => ⟨-1, 0, 0, 0⟩
  | 5 => ⟨0, -1, 0, 0⟩
  | 6 => ⟨0, 0, -1, 0⟩
  | _ => ⟨0, 0, 0, -1⟩
def phD (k : Nat) : Dw := ⟨phZ k, 0⟩
def isqD : Dw := ⟨⟨1, 0, 0, 0⟩, 1⟩
def cntQ (n : Nat) : Nat := if n = 2 then 1 else if n = 4 then 2 else if n = 8 then 3 else if n = 16 then 4 else 0
def okS (v : List Dw) : Bool := v.all okD && decide (0 < cntQ v.length)

/-- Is bit q of i set? -/
def bitB (i q : Nat) : Bool := i / 2 ^ q % 2 == 1
def flipN (i q : Nat) : Nat := if bitB i q then i - 2 ^ q else i + 2 ^ q
def phG (i : Nat) (turn : Bool) (k : Nat) : List (Nat × Dw) := [(i, phD (if turn then k else 0))]
def flG (i q : Nat) (turn : Bool) : List (Nat × Dw) := [(if turn then flipN i q else i, phD 0)]
def goes (g : Gt) (i : Nat) : List (Nat × Dw) :=
  let p := g.a.toNat
  let q := g.b.toNat
  let r := g.c.toNat
  let a := bitB i p
  let b := bitB i q
  if g.k = 1 then flG i p true
  else if g.k = 2 then [(flipN i p, phD (if a then 6 else 2))]
  else if g.k = 3 then phG i a 4
  else if g.k = 5 then phG i a 2
  else if g.k = 6 then phG i a 6
  else if g.k = 7 then phG i a 1
  else if g.k = 8 then phG i a 7
  else if g.k = 9 then flG i q a
  else if g.k = 10 then phG i (a && b) 4
  else if g.k = 12 then flG i r (a && b)
  else if g.k = 11 then [(if a != b then flipN (flipN i p) q else i, phD 0)]
  else [(if a then flipN i p else i, isqD), (if a then i else flipN i p, if a then negD isqD else isqD)]
def putD (x : Dw) (out : List Dw) (t : Nat × Dw) : Option (List Dw) :=
  match mulD x t.2 with
  | some y => match addD (out.getD t.1 Dw.zero) y with
    | some z => some (out.set t.1 z)
    | none => none
  | none => none
def putAll (x : Dw) : List (Nat × Dw) → List Dw → Option (List Dw)
  | [], out => some out
  | t :: r, out => match putD x out t with
    | some o => putAll x r o
    | none => none
def appL (g : Gt) : Nat → List Dw → List Dw → Option (List Dw)
  | _, [], out => some out
  | i, x :: r, out => if x = Dw.zero then appL g (i + 1) r out else
    match putAll x (goes g i) out with
    | some o => appL g (i + 1) r o
    | none => none
def appG (g : Gt) (v : List Dw) : Option (List Dw) := if okS v && okG g.k g.a g.b g.c (cntQ v.length : Nat) then appL g 0 v (List.replicate v.length Dw.zero) else none
def appGL : List Gt → List Dw → Option (List Dw)
  | [], v => some v
  | g :: r, v => match appG g v with
    | some o => appGL r o
    | none => none
def appGs (gs : List Gt) (v : List Dw) : Option (List Dw) := if okS v then appGL gs v else none
def basis (n i : Nat) : List Dw := (List.replicate (2 ^ n) Dw.zero).set i ⟨⟨1, 0, 0, 0⟩, 0⟩
end Go.Proofs.YtgnallcfahpjmaaR
