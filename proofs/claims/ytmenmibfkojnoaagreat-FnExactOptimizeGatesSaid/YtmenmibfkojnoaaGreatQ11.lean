/- Contracts of l34Alike and MergeGates. Plain: merging two gates; equality of gates as values. -/
import Derived.Test.YtmenmibfkojnoaaGreatQ09
import Derived.Test.YtmenmibfkojnoaaGreatQ10
import Derived.BigGuardPart
import Derived.StillTailTactics
import Derived.Deep.RegionWith
import Derived.Deep.DeepCutAuto
set_option maxHeartbeats 16000000
namespace Go.Proofs.YtmenmibfkojnoaaGreat
open Go.RowKit
def alike (k a b k' a' b' : Int) : Bool := (k == k' && (k == 10 || k == 11)) && ((a == a' && b == b') || (a == b' && b == a'))
theorem s_alike (k a b c k' a' b' c' : Int) (w : World) : Calls Tryz.prog 176 #[.agg #[.int .i64 k, .int .i64 a, .int .i64 b, .int .i64 c], .agg #[.int .i64 k', .int .i64 a', .int .i64 b', .int .i64 c']] w fun e w' => e = .returned (.bool (alike k a b k' a' b')) /\ Below w.heap.size w w' := by
 go_enter Tryz.func176, Tryz.ntmps176
 go_wp2
 all_goals go_ret
 all_goals exact ⟨ret_bool (by unfold alike; simp [*] <;> (intros; omega)), (by repeat (first | exact zW | assumption | refine Below.drew ?_ | refine Below.alloc ?_ (by simp <;> omega) _))⟩
end Go.Proofs.YtmenmibfkojnoaaGreat
namespace Go.Proofs.YtmenmibfkojnoaaGreat
open Go.RowKit
theorem eqGV (k a b c k' a' b' c' : Int) (w : World) : (Op.equalIn 10000 39 (.agg #[.int .i64 k, .int .i64 a, .int .i64 b, .int .i64 c]) (.agg #[.int .i64 k', .int .i64 a', .int .i64 b', .int .i64 c'])).run Tryz.prog w = .ok (k == k' && (a == a' && (b == b' && c == c'))) w := by
 have u3 := Tryz.underlying3
 have a3 := Tryz.isAgg3
 have z3 := Tryz.sizeOf3
 have hS : Tryz.prog.underlying 39 = some (.struct (Tryz.prog.fieldsOf 39)) := by kernel_rfl
 rw [show (10000 : Nat) = 9999 + 1 from rfl, run_equalIn_agg w 9999 39 _ _ hS (by kernel_rfl)]
 simp only [Program.fieldsOf, Tryz.underlying39]
 go_simp
 by_cases h1 : k = k' <;> by_cases h2 : a = a' <;> by_cases h3 : b = b' <;> by_cases h4 : c = c' <;> simp [h1, h2, h3, h4]
def isInv (g h : Gt) : Bool := h.k == invK g.k && (h.a == g.a && (h.b == g.b && h.c == g.c))
def alikeG (g h : Gt) : Bool := alike g.k g.a g.b h.k h.a h.b
def mergeB (g h : Gt) : Bool := decide (0 < arity g.k) && (isInv g h || alikeG g h)
def rotB (g h : Gt) : Bool := (decide (0 < units g.k) && decide (0 < units h.k)) && g.a == h.a
def sumU (g h : Gt) : Int := (units g.k + units h.k) % 8
def rotOne (g h : Gt) : Bool := rotB g h && decide ((rotK (sumU g h)).length <= 1)
def mergeOk (g h : Gt) : Bool := mergeB g h || rotOne g h
def mergeL (g h : Gt) : List Gt := if mergeB g h then [] else if rotOne g h then rotG (sumU g h) g.a else []
def RetGB (gs : List Gt) (b : Bool) (w : World) (e : Ending) (w' : World) : Prop :=
 ∃ (A : Option Addr) (c : Nat), e = .returned (.tuple #[.slice A gs.length c, .bool b]) /\ w'.ownsRow w.heap.size 39 4 (.slice A gs.length c) gs.length (cellsG gs) /\ Below w.heap.size w w'
theorem merge_yes {g h : Gt} (hb : mergeB g h = true) : mergeL g h = [] /\ mergeOk g h = true := by simp [mergeL, mergeOk, hb]
theorem merge_rot {g h : Gt} (hb : mergeB g h = false) (hr : rotB g h = true) (h1 : (rotK (sumU g h)).length <= 1) : mergeL g h = rotG (sumU g h) g.a /\ mergeOk g h = true := by simp [mergeL, mergeOk, hb, rotOne, hr, h1]
theorem merge_two {g h : Gt} (hb : mergeB g h = false) (h1 : ¬ (rotK (sumU g h)).length <= 1) : mergeL g h = [] /\ mergeOk g h = false := by simp [mergeL, mergeOk, hb, rotOne, h1]
theorem merge_no {g h : Gt} (hb : mergeB g h = false) (hr : rotB g h = false) : mergeL g h = [] /\ mergeOk g h = false := by simp [mergeL, mergeOk, hb, rotOne, hr]
theorem mergeB_0 {g h : Gt} (h0 : arity g.k = 0) : mergeB g h = false := by simp [mergeB, h0]
theorem rotB_0 {g h : Gt} (h0 : arity g.k = 0) : rotB g h = false := by
 have : units g.k = 0 := by
  rcases units_cases g.k with h | h | h | h | h | h
  all_goals first | exact h.2.2.2.2.2 | (exfalso; obtain ⟨e, _⟩ := h; rw [e] at h0; simp [arity] at h0)
 simp [rotB, this]
end Go.Proofs.YtmenmibfkojnoaaGreat
