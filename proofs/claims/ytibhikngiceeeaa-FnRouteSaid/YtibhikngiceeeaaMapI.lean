/- The map from numbers to truth values that IsValidGate keeps: what a lookup and an update do. -/
import Derived.Test.YtibhikngiceeeaaProg
import Derived.Test.YtibhikngiceeeaaBase
import Derived.MapKept
import Derived.WideMake
import Derived.ChangeOld
namespace Go.Proofs.Ytibhikngiceeeaa
open Go.RowKit

def EntsI (es : List MapEntry) (zs : List Int) : Prop := es.map (fun e => (e.key, e.val)) = zs.map (fun z => (Value.int .i64 z, Value.bool true))
theorem EntsI.key {es : List MapEntry} {zs : List Int} (h : EntsI es zs) : ∀ x ∈ es, MapKept.IsKey (.int .i64) x.key := by
  intro x hx
  have : (x.key, x.val) ∈ es.map (fun e => (e.key, e.val)) := List.mem_map.2 ⟨x, hx, rfl⟩
  rw [h] at this
  obtain ⟨z, _, e⟩ := List.mem_map.1 this
  injection e with e1 e2
  rw [← e1]; rfl
theorem findI (k : Int) (w : World) (es : List MapEntry) (zs : List Int) (h : EntsI es zs) :
    ∃ r, (Instr.findKey 3 (.int .i64 k) es).run Try.prog w = .ok r w ∧ (zs.any (· == k) = true → ∃ j, r = some (j, .bool true)) ∧ (zs.any (· == k) = false → r = none) := by
  rcases MapKept.findNow_spec (d := .int .i64) (k := .int .i64 k) rfl es 0 h.key with ⟨h1, h2⟩ | ⟨j, e, h1, h2, h3⟩
  · refine ⟨none, MapKept.run_findKey Try.underlying3 h1, fun ht => ?_, fun _ => rfl⟩
    obtain ⟨z, hz, hzk⟩ := List.any_eq_true.1 ht
    have hm : (Value.int .i64 z, Value.bool true) ∈ es.map (fun e => (e.key, e.val)) := by rw [h]; exact List.mem_map.2 ⟨z, hz, rfl⟩
    obtain ⟨x, hx, e⟩ := List.mem_map.1 hm
    injection e with e1 e2
    exact absurd (e1.trans (by rw [eq_of_beq hzk])) (h2 x hx)
  · have hx : e ∈ es := List.mem_of_getElem? h2
    have hm : (e.key, e.val) ∈ zs.map (fun z => (Value.int .i64 z, Value.bool true)) := by rw [← h]; exact List.mem_map.2 ⟨e, hx, rfl⟩
    obtain ⟨z, hz, q⟩ := List.mem_map.1 hm
    injection q with q1 q2
    refine ⟨some (0 + j, e.val), MapKept.run_findKey Try.underlying3 h1, fun _ => ⟨0 + j, by rw [← q2]⟩, fun hf => ?_⟩
    rw [h3] at q1
    injection q1 with _ q3
    have := List.any_eq_false.1 hf z hz
    simp [q3] at this
theorem check_keyI (k : Int) (b : Bool) (w : World) : (Instr.checkKey b 10000 3 (.int .i64 k)).run Try.prog w = .ok () w :=
  MapKept.run_checkKey Try.underlying3 (k := .int .i64 k) rfl b 9999
theorem run_lookup_i (r clock : Nat) (k : Int) (es : Array MapEntry) (zs : List Int) (w : World) (hb : w.heap[r]? = some (.map es clock)) (h : EntsI es.toList zs) :
    (Instr.lookup 88 (.map (some r)) (.int .i64 k) false).run Try.prog w = .ok (.bool (zs.any (· == k))) w := by
  have hM : Try.prog.underlying 88 = some (.map 3 4) := by kernel_rfl
  obtain ⟨r', h1, h2, h3⟩ := findI k w es.toList zs h
  have hz : (zeroValue 4).run Try.prog w = .ok (.bool false) w := by kernel_rfl
  cases hp : zs.any (· == k)
  · obtain rfl := h3 hp
    simp [Instr.lookup, run_underlying hM, MapKept.run_getObj_map hb, check_keyI, h1, hz, Result.andThen]
  · obtain ⟨j, rfl⟩ := h2 hp
    simp [Instr.lookup, run_underlying hM, MapKept.run_getObj_map hb, check_keyI, h1, Result.andThen]
theorem run_update_i (r clock : Nat) (k : Int) (es : Array MapEntry) (zs : List Int) (w : World) (hb : w.heap[r]? = some (.map es clock)) (h : EntsI es.toList zs) (hp : zs.any (· == k) = false) :
    (Instr.mapUpdate 88 (.map (some r)) (.int .i64 k) (.bool true)).run Try.prog w = .ok () { w with heap := w.heap.setIfInBounds r (.map (es.push { key := .int .i64 k, val := .bool true, born := clock }) (clock + 1)) } := by
  have hM : Try.prog.underlying 88 = some (.map 3 4) := by kernel_rfl
  obtain ⟨r', h1, h2, h3⟩ := findI k w es.toList zs h
  obtain rfl := h3 hp
  simp [Instr.mapUpdate, run_underlying hM, MapKept.run_getObj_map hb, check_keyI, h1, MapKept.run_setObj_map _ hb, Result.andThen]
theorem EntsI.push {es : Array MapEntry} {zs : List Int} (h : EntsI es.toList zs) (k : Int) (b : Nat) : EntsI (es.push { key := .int .i64 k, val := .bool true, born := b }).toList (zs ++ [k]) := by
  unfold EntsI at h ⊢
  rw [Array.toList_push, List.map_append, h, List.map_append]; rfl
theorem below_setObjI {B : Nat} {a w : World} (h : Below B a w) {r : Nat} (hr : B ≤ r) (o : Obj) : Below B a { w with heap := w.heap.setIfInBounds r o } :=
  h.trans ⟨rfl, rfl, rfl, by simp, fun k hk => by
    show (w.heap.setIfInBounds r o)[k]? = _
    rw [Array.getElem?_setIfInBounds_ne (by omega)]⟩
theorem Bx.setObjI {w : World} {g t : Nat} {cs : Array Value} (h : Bx w g t cs) {r : Nat} (hr : g ≠ r) (o : Obj) : Bx { w with heap := w.heap.setIfInBounds r o } g t cs := by
  unfold Bx at h ⊢
  show (w.heap.setIfInBounds r o)[g]? = _
  rw [Array.getElem?_setIfInBounds_ne (by omega)]; exact h
theorem map_setObjI {w : World} {r : Nat} {o o' : Obj} (h : w.heap[r]? = some o) : ({ w with heap := w.heap.setIfInBounds r o' } : World).heap[r]? = some o' := (MapKept.heap_set h).1
theorem map_allocI {w : World} {r : Nat} {o o' : Obj} (h : w.heap[r]? = some o) : (w.alloc o').heap[r]? = some o := (Below.heap_alloc w o' r (Array.getElem?_eq_some_iff.1 h).1).trans h
theorem map_belowI {w w' : World} {r : Nat} {o : Obj} (h : w.heap[r]? = some o) (hb : Below w.heap.size w w') : w'.heap[r]? = some o := (hb.block r (Array.getElem?_eq_some_iff.1 h).1).trans h
end Go.Proofs.Ytibhikngiceeeaa
