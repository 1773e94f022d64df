/- More plain facts on rows and blocks. Nothing is asked. -/
import Derived.Test.YtgnallcfahpjmaaRBase
namespace Go.Proofs.YtgnallcfahpjmaaR
open Go.RowKit

theorem own_bx_ne {w : World} {base : Nat} {e t : TypeId} {sz n g : Nat} {v : Value} {xs : List Value} {cs : Array Value} (h : w.ownsRow base e sz v n xs) (hg : Bx w g t cs) (hne : e ≠ t) : some g ≠ v.ownBlock := by
  rcases h.2 with ⟨rfl, _⟩ | ⟨g', cap, cur, rfl, _, hh, _⟩
  · simp [Value.ownBlock]
  · intro he
    have : g = g' := by simpa [Value.ownBlock] using he
    subst this
    unfold Bx at hg
    rw [hh] at hg
    injection hg with hg
    injection hg with _ ht
    exact hne ht
theorem Bx.ne {w : World} {g g' : Nat} {t t' : TypeId} {cs cs' : Array Value} (h : Bx w g t cs) (h' : Bx w g' t' cs') (hne : t ≠ t') : g ≠ g' := by
  rintro rfl
  unfold Bx at h h'
  rw [h] at h'
  injection h' with h'
  injection h' with _ ht
  exact hne ht
theorem Bx.rdI {w : World} {g : Nat} {t : TypeId} {zs : List Int} {cs : Array Value} (h : Bx w g t cs) (hc : cs.toList = cellsI zs) : RdI w (some ⟨g, 0, none⟩) zs.length zs := by
  refine ⟨rfl, length_cellsI zs, fun _ => ⟨g, 0, rfl, h.lt, fun j u hu => ?_⟩⟩
  rw [Nat.zero_add, h.cell j, ← hu, ← hc]
  simp
theorem take_snoc {α : Type} {l : List α} {k : Nat} {x : α} (hd : l.drop k = x :: l.drop (k + 1)) : l.take (k + 1) = l.take k ++ [x] := by
  have hl : k < l.length := by
    rcases Nat.lt_or_ge k l.length with h | h
    · exact h
    · rw [List.drop_eq_nil_of_le h] at hd; cases hd
  rw [List.take_succ_eq_append_getElem hl]
  rw [drop_cons hl] at hd
  injection hd with h1 _
  rw [h1]
theorem below_of_grown {w w' : World} {row : Option Nat} (h : w.grownBy w' row) {B : Nat} (hB : B ≤ w.heap.size) (hr : ∀ k, row = some k → B ≤ k) : Below B w w' :=
  ⟨h.os, h.tape, h.output, h.size, fun k hk => h.block k (by omega) (fun e => by have := hr k e.symm; omega)⟩
theorem heap_alloc_if (w : World) (o : Obj) (i : Nat) : (w.alloc o).heap[i]? = if i = w.heap.size then some o else w.heap[i]? := by
  by_cases h : i = w.heap.size
  · subst h; rw [if_pos rfl]; exact heap_alloc_new w o
  · rw [if_neg h]
    by_cases h2 : i < w.heap.size
    · exact Below.heap_alloc w o i h2
    · rw [Array.getElem?_eq_none (by simp; omega), Array.getElem?_eq_none (by omega)]
theorem Bx.new' {w : World} {i : Nat} {t : TypeId} {cs : Array Value} (h : i = w.heap.size) : Bx (w.alloc (.cells cs t)) i t cs := h ▸ Bx.new w t cs
theorem kept_app {w w' : World} {base : Nat} {e : TypeId} {sz n : Nat} {v : Value} {xs : List Value} {g t : Nat} {cs : Array Value} (ho : w.ownsRow base e sz v n xs) (hg : w.grownBy w' v.ownBlock) (hb : Bx w g t cs) (hne : e ≠ t) : Bx w' g t cs :=
  hb.grown hg (own_bx_ne ho hb hne)
end Go.Proofs.YtgnallcfahpjmaaR
