/- The map from edges to truth values that IsValidGraph keeps: what a lookup and an update do. -/
import Derived.Test.YtibhikngiceeeaaHasEdge
import Derived.Test.YtibhikngiceeeaaBase
import Derived.MapKept
import Derived.WideMake
import Derived.ChangeOld
namespace Go.Proofs.Ytibhikngiceeeaa
open Go.RowKit

def ev (p : Int × Int) : Value := .agg #[.int .i64 p.1, .int .i64 p.2]
theorem eqEdgeV (a b a' b' : Int) (w : World) : (Op.equalIn 10000 167 (.agg #[.int .i64 a, .int .i64 b]) (.agg #[.int .i64 a', .int .i64 b'])).run Try.prog w = .ok (a == a' && b == b') w := by
  have u3 := Try.underlying3
  have a3 := Try.isAgg3
  have z3 := Try.sizeOf3
  have hS : Try.prog.underlying 167 = some (.struct (Try.prog.fieldsOf 167)) := by kernel_rfl
  rw [show (10000 : Nat) = 9999 + 1 from rfl, run_equalIn_agg w 9999 167 _ _ hS (by kernel_rfl)]
  simp only [Program.fieldsOf, Try.underlying167]
  go_simp
  by_cases h1 : a = a' <;> by_cases h2 : b = b' <;> simp [h1, h2]
theorem pair_beq (p q : Int × Int) : (p == q) = (p.1 == q.1 && p.2 == q.2) := rfl
def Ents (es : List MapEntry) (ps : List (Int × Int)) : Prop := es.map (fun e => (e.key, e.val)) = ps.map (fun p => (ev p, Value.bool true))
theorem find_asking (k : Int × Int) (w : World) : ∀ (es : List MapEntry) (ps : List (Int × Int)) (i : Nat), Ents es ps →
    ∃ r, (Instr.findAsking 167 (ev k) es i).run Try.prog w = .ok r w ∧ (ps.any (· == k) = true → ∃ j, r = some (j, .bool true)) ∧ (ps.any (· == k) = false → r = none)
  | [], [], i, _ => ⟨none, rfl, fun h => by simp at h, fun _ => rfl⟩
  | [], p :: ps, i, h => by simp [Ents] at h
  | e :: es, [], i, h => by simp [Ents] at h
  | e :: es, p :: ps, i, h => by
    simp only [Ents, List.map_cons, List.cons.injEq, Prod.mk.injEq] at h
    obtain ⟨⟨hk, hv⟩, ht⟩ := h
    obtain ⟨r, h1, h2, h3⟩ := find_asking k w es ps (i + 1) ht
    have he : (Op.equal 167 (ev k) e.key).run Try.prog w = .ok (k.1 == p.1 && k.2 == p.2) w := by rw [hk]; exact eqEdgeV k.1 k.2 p.1 p.2 w
    have hs : (k.1 == p.1 && k.2 == p.2) = (p == k) := by rw [pair_beq, Bool.beq_comm (a := k.1), Bool.beq_comm (a := k.2)]
    rw [hs] at he
    cases hb : p == k
    · rw [hb] at he
      refine ⟨r, ?_, ?_, ?_⟩
      · simp [Instr.findAsking, Sem.run_bind, he, Result.andThen, h1]
      · simpa [hb] using h2
      · simpa [hb] using h3
    · rw [hb] at he
      refine ⟨some (i, e.val), ?_, fun _ => ⟨i, by rw [hv]⟩, fun h => by simp [hb] at h⟩
      simp [Instr.findAsking, Sem.run_bind, he, Result.andThen]
theorem find_key (k : Int × Int) (w : World) (es : List MapEntry) (ps : List (Int × Int)) (h : Ents es ps) :
    ∃ r, (Instr.findKey 167 (ev k) es).run Try.prog w = .ok r w ∧ (ps.any (· == k) = true → ∃ j, r = some (j, .bool true)) ∧ (ps.any (· == k) = false → r = none) := by
  have hS : Try.prog.underlying 167 = some (.struct (Try.prog.fieldsOf 167)) := by kernel_rfl
  cases es with
  | nil =>
    cases ps with
    | nil => exact ⟨none, by simp [Instr.findKey, run_underlying hS, Result.andThen, Instr.findNow], fun h => by simp at h, fun _ => rfl⟩
    | cons p ps => simp [Ents] at h
  | cons e es =>
    obtain ⟨r, h1, h2⟩ := find_asking k w (e :: es) ps 0 h
    exact ⟨r, by simp [Instr.findKey, run_underlying hS, Result.andThen, Instr.findNow, Instr.sameNow, h1], h2⟩
theorem check_key (k : Int × Int) (b : Bool) (w : World) : (Instr.checkKey b 10000 167 (ev k)).run Try.prog w = .ok () w := by
  have u3 := Try.underlying3
  have uE := Try.underlying167
  have a3 := Try.isAgg3
  have z3 := Try.sizeOf3
  rw [show (10000 : Nat) = 9998 + 1 + 1 from rfl]
  unfold Instr.checkKey ev
  have c1 : ∀ (w : World) (x : Int), (Instr.checkKey b 9999 3 (.int .i64 x)).run Try.prog w = .ok () w := fun w x => MapKept.run_checkKey u3 (k := .int .i64 x) (by simp [MapKept.IsKey]) b 9998
  go_simp
theorem run_lookup_e (r clock : Nat) (k : Int × Int) (es : Array MapEntry) (ps : List (Int × Int)) (w : World) (hb : w.heap[r]? = some (.map es clock)) (h : Ents es.toList ps) :
    (Instr.lookup 185 (.map (some r)) (ev k) false).run Try.prog w = .ok (.bool (ps.any (· == k))) w := by
  have hM : Try.prog.underlying 185 = some (.map 167 4) := by kernel_rfl
  obtain ⟨r', h1, h2, h3⟩ := find_key k w es.toList ps h
  have hz : (zeroValue 4).run Try.prog w = .ok (.bool false) w := by kernel_rfl
  cases hp : ps.any (· == k)
  · obtain rfl := h3 hp
    simp [Instr.lookup, run_underlying hM, MapKept.run_getObj_map hb, check_key, h1, hz, Result.andThen]
  · obtain ⟨j, rfl⟩ := h2 hp
    simp [Instr.lookup, run_underlying hM, MapKept.run_getObj_map hb, check_key, h1, Result.andThen]
theorem run_update_e (r clock : Nat) (k : Int × Int) (es : Array MapEntry) (ps : List (Int × Int)) (w : World) (hb : w.heap[r]? = some (.map es clock)) (h : Ents es.toList ps) (hp : ps.any (· == k) = false) :
    (Instr.mapUpdate 185 (.map (some r)) (ev k) (.bool true)).run Try.prog w = .ok () { w with heap := w.heap.setIfInBounds r (.map (es.push { key := ev k, val := .bool true, born := clock }) (clock + 1)) } := by
  have hM : Try.prog.underlying 185 = some (.map 167 4) := by kernel_rfl
  obtain ⟨r', h1, h2, h3⟩ := find_key k w es.toList ps h
  obtain rfl := h3 hp
  simp [Instr.mapUpdate, run_underlying hM, MapKept.run_getObj_map hb, check_key, h1, MapKept.run_setObj_map _ hb, Result.andThen]
theorem Ents.push {es : Array MapEntry} {ps : List (Int × Int)} (h : Ents es.toList ps) (k : Int × Int) (b : Nat) : Ents (es.push { key := ev k, val := .bool true, born := b }).toList (ps ++ [k]) := by
  unfold Ents at h ⊢
  rw [Array.toList_push, List.map_append, h, List.map_append]; rfl
theorem below_setObj {B : Nat} {a w : World} (h : Below B a w) {r : Nat} (hr : B ≤ r) (o : Obj) : Below B a { w with heap := w.heap.setIfInBounds r o } :=
  h.trans ⟨rfl, rfl, rfl, by simp, fun k hk => by
    show (w.heap.setIfInBounds r o)[k]? = _
    rw [Array.getElem?_setIfInBounds_ne (by omega)]⟩
theorem Bx.setObj {w : World} {g t : Nat} {cs : Array Value} (h : Bx w g t cs) {r : Nat} (hr : g ≠ r) (o : Obj) : Bx { w with heap := w.heap.setIfInBounds r o } g t cs := by
  unfold Bx at h ⊢
  show (w.heap.setIfInBounds r o)[g]? = _
  rw [Array.getElem?_setIfInBounds_ne (by omega)]; exact h
theorem map_setObj {w : World} {r : Nat} {o o' : Obj} (h : w.heap[r]? = some o) : ({ w with heap := w.heap.setIfInBounds r o' } : World).heap[r]? = some o' := (MapKept.heap_set h).1
theorem map_alloc {w : World} {r : Nat} {o o' : Obj} (h : w.heap[r]? = some o) : (w.alloc o').heap[r]? = some o := (Below.heap_alloc w o' r (Array.getElem?_eq_some_iff.1 h).1).trans h
theorem map_below {w w' : World} {r : Nat} {o : Obj} (h : w.heap[r]? = some o) (hb : Below w.heap.size w w') : w'.heap[r]? = some o := (hb.block r (Array.getElem?_eq_some_iff.1 h).1).trans h
end Go.Proofs.Ytibhikngiceeeaa
