/- Numbers of D[omega] as cells; slices of them; places where an amplitude is sent. Nothing is asked. -/
import Derived.Test.YtgnallcfahpjmaaRProg
import Derived.Test.YtgnallcfahpjmaaRDom
import Derived.Test.YtgnallcfahpjmaaRBase4
namespace Go.Proofs.YtgnallcfahpjmaaR
open Go.RowKit
set_option linter.unusedVariables false

section
variable {α : Type} {f : α → List Value} {s : Nat}
theorem fm_length (hf : ∀ x, (f x).length = s) (l : List α) : (l.flatMap f).length = l.length * s := by
  induction l with
  | nil => simp
  | cons x r ih => simp only [List.flatMap_cons, List.length_append, hf, ih, List.length_cons, Nat.add_mul]; omega
theorem fm_drop (hf : ∀ x, (f x).length = s) (l : List α) (k : Nat) : (l.drop k).flatMap f = (l.flatMap f).drop (k * s) := by
  induction k generalizing l with
  | zero => simp
  | succ k ih =>
    cases l with
    | nil => simp
    | cons x r =>
      rw [List.drop_succ_cons, ih r, List.flatMap_cons, show (k + 1) * s = s + k * s by rw [Nat.add_mul]; omega, ← List.drop_drop]
      congr 1
      rw [List.drop_append_of_le_length (by rw [hf]; exact Nat.le_refl _), List.drop_eq_nil_of_le (by rw [hf]; exact Nat.le_refl _)]
      rfl
theorem fm_take (hf : ∀ x, (f x).length = s) (l : List α) (k : Nat) : (l.take k).flatMap f = (l.flatMap f).take (k * s) := by
  induction k generalizing l with
  | zero => simp
  | succ k ih =>
    cases l with
    | nil => simp
    | cons x r =>
      rw [List.take_succ_cons, List.flatMap_cons, ih r, List.flatMap_cons, show (k + 1) * s = s + k * s by rw [Nat.add_mul]; omega, List.take_append, hf, Nat.add_sub_cancel_left]
      rw [List.take_of_length_le (l := f x) (by rw [hf]; omega)]
theorem fm_at (hf : ∀ x, (f x).length = s) {l r : List α} {k j : Nat} {x : α} (h : l.drop k = x :: r) (hj : j < s) : (l.flatMap f)[k * s + j]? = (f x)[j]? := by
  have e : (l.flatMap f).drop (k * s) = f x ++ r.flatMap f := by rw [← fm_drop hf, h]; rfl
  have h2 : (l.flatMap f)[k * s + j]? = ((l.flatMap f).drop (k * s))[j]? := by rw [List.getElem?_drop]
  rw [h2, e, List.getElem?_append_left (by rw [hf]; exact hj)]
theorem fm_set (hf : ∀ x, (f x).length = s) {l : List α} {k : Nat} {y : α} (hk : k < l.length) : (l.set k y).flatMap f = (l.flatMap f).take (k * s) ++ (f y ++ (l.flatMap f).drop ((k + 1) * s)) := by
  rw [List.set_eq_take_append_cons_drop, if_pos hk, List.flatMap_append, List.flatMap_cons, fm_take hf, fm_drop hf]
theorem fm_split (hf : ∀ x, (f x).length = s) {l r : List α} {k : Nat} {x : α} (h : l.drop k = x :: r) : l.flatMap f = (l.flatMap f).take (k * s) ++ (f x ++ (l.flatMap f).drop ((k + 1) * s)) := by
  have h2 : l.drop (k + 1) = r := by
    have := congrArg List.tail h
    rwa [List.tail_drop] at this
  rw [← fm_drop hf, h2, ← fm_take hf]
  have e : l = l.take k ++ x :: r := by rw [← h, List.take_append_drop]
  have e2 := congrArg (fun z => z.flatMap f) e
  simp only [List.flatMap_append, List.flatMap_cons] at e2
  exact e2
end

def Zw.cells (x : Zw) : List Value := [.int .i64 x.a, .int .i64 x.b, .int .i64 x.c, .int .i64 x.d]
def Dw.cells (x : Dw) : List Value := [.int .i64 x.n.a, .int .i64 x.n.b, .int .i64 x.n.c, .int .i64 x.n.d, .int .i64 x.e]
def sentC (x : Nat × Dw) : List Value := [.int .i64 (x.1 : Int), .int .i64 x.2.n.a, .int .i64 x.2.n.b, .int .i64 x.2.n.c, .int .i64 x.2.n.d, .int .i64 x.2.e]
def cellsD (vs : List Dw) : List Value := vs.flatMap Dw.cells
def cellsS (vs : List (Nat × Dw)) : List Value := vs.flatMap sentC
theorem length_Dw (x : Dw) : x.cells.length = 5 := rfl
theorem length_sent (x : Nat × Dw) : (sentC x).length = 6 := rfl
theorem length_cellsD (vs : List Dw) : (cellsD vs).length = vs.length * 5 := fm_length length_Dw vs
theorem cellsD_append (a b : List Dw) : cellsD (a ++ b) = cellsD a ++ cellsD b := by simp [cellsD]
theorem one_cellsD {vs : List Dw} : ∀ u ∈ cellsD vs, u.oneCell' = true := by
  intro u hu
  simp only [cellsD, List.mem_flatMap, Dw.cells] at hu
  obtain ⟨g, _, hg⟩ := hu
  simp at hg
  rcases hg with rfl | rfl | rfl | rfl | rfl <;> rfl
def RdD (w : World) (A : Option Addr) (n : Nat) (vs : List Dw) : Prop := vs.length = n ∧ Rd w 5 A n (cellsD vs)
def RdSn (w : World) (A : Option Addr) (n : Nat) (vs : List (Nat × Dw)) : Prop := vs.length = n ∧ Rd w 6 A n (cellsS vs)
section
variable {w w' : World} {n : Nat} {A : Option Addr}
theorem RdD.at_ {vs : List Dw} (h : RdD w A n vs) {k : Nat} (hk : k < n) : ∃ (b off : Nat) (x : Dw), A = some ⟨b, off, none⟩ ∧ b < w.heap.size ∧ vs.drop k = x :: vs.drop (k + 1) ∧
    w.cell? ⟨b, off + k * 5, none⟩ = some (.int .i64 x.n.a) ∧ w.cell? ⟨b, off + k * 5 + 1, none⟩ = some (.int .i64 x.n.b) ∧ w.cell? ⟨b, off + k * 5 + 2, none⟩ = some (.int .i64 x.n.c) ∧ w.cell? ⟨b, off + k * 5 + 3, none⟩ = some (.int .i64 x.n.d) ∧ w.cell? ⟨b, off + k * 5 + 4, none⟩ = some (.int .i64 x.e) := by
  obtain ⟨hl, hr⟩ := h
  obtain ⟨b, off, e, hb, hc⟩ := hr.2 (by omega)
  have hd := drop_cons (l := vs) (k := k) (by omega)
  have f := fun j hj => fm_at length_Dw (j := j) hd hj
  exact ⟨b, off, _, e, hb, hd, hc _ _ (f 0 (by omega)), hc _ _ (f 1 (by omega)), hc _ _ (f 2 (by omega)), hc _ _ (f 3 (by omega)), hc _ _ (f 4 (by omega))⟩
theorem RdSn.at_ {vs : List (Nat × Dw)} (h : RdSn w A n vs) {k : Nat} (hk : k < n) : ∃ (b off : Nat) (x : Nat × Dw), A = some ⟨b, off, none⟩ ∧ b < w.heap.size ∧ vs.drop k = x :: vs.drop (k + 1) ∧
    w.cell? ⟨b, off + k * 6, none⟩ = some (.int .i64 (x.1 : Int)) ∧ w.cell? ⟨b, off + k * 6 + 1, none⟩ = some (.int .i64 x.2.n.a) ∧ w.cell? ⟨b, off + k * 6 + 2, none⟩ = some (.int .i64 x.2.n.b) ∧ w.cell? ⟨b, off + k * 6 + 3, none⟩ = some (.int .i64 x.2.n.c) ∧ w.cell? ⟨b, off + k * 6 + 4, none⟩ = some (.int .i64 x.2.n.d) ∧ w.cell? ⟨b, off + k * 6 + 5, none⟩ = some (.int .i64 x.2.e) := by
  obtain ⟨hl, hr⟩ := h
  obtain ⟨b, off, e, hb, hc⟩ := hr.2 (by omega)
  have hd := drop_cons (l := vs) (k := k) (by omega)
  have f := fun j hj => fm_at length_sent (j := j) hd hj
  exact ⟨b, off, _, e, hb, hd, hc _ _ (f 0 (by omega)), hc _ _ (f 1 (by omega)), hc _ _ (f 2 (by omega)), hc _ _ (f 3 (by omega)), hc _ _ (f 4 (by omega)), hc _ _ (f 5 (by omega))⟩
theorem RdD.below {vs : List Dw} (h : RdD w A n vs) (hb : Below w.heap.size w w') : RdD w' A n vs := ⟨h.1, h.2.below hb⟩
theorem RdD.alloc {vs : List Dw} (h : RdD w A n vs) (o : Obj) : RdD (w.alloc o) A n vs := ⟨h.1, h.2.alloc o⟩
theorem RdD.drew {vs : List Dw} (h : RdD w A n vs) : RdD w.drew A n vs := h
theorem RdD.drewN {vs : List Dw} (h : RdD w A n vs) (k : Nat) : RdD (w.drewN k) A n vs := h
theorem RdSn.below {vs : List (Nat × Dw)} (h : RdSn w A n vs) (hb : Below w.heap.size w w') : RdSn w' A n vs := ⟨h.1, h.2.below hb⟩
theorem RdSn.alloc {vs : List (Nat × Dw)} (h : RdSn w A n vs) (o : Obj) : RdSn (w.alloc o) A n vs := ⟨h.1, h.2.alloc o⟩
theorem RdSn.drew {vs : List (Nat × Dw)} (h : RdSn w A n vs) : RdSn w.drew A n vs := h
theorem RdD.own {base : Nat} {e : TypeId} {c : Nat} {vs : List Dw} (h : w.ownsRow base e 5 (.slice A n c) n (cellsD vs)) : RdD w A n vs := ⟨by
  have h1 := h.1
  have h2 := length_cellsD vs
  omega, Rd.own h⟩
theorem RdSn.own {base : Nat} {e : TypeId} {c : Nat} {vs : List (Nat × Dw)} (h : w.ownsRow base e 6 (.slice A n c) n (cellsS vs)) : RdSn w A n vs := ⟨by
  have h1 := h.1
  have h2 : (cellsS vs).length = vs.length * 6 := fm_length length_sent vs
  omega, Rd.own h⟩
end
theorem set5 {P S : List Value} {k : Nat} (hP : P.length = k * 5) {a b c d e a' b' c' d' e' : Value} :
    (((((P ++ ([a, b, c, d, e] ++ S)).set (k * 5) a').set (k * 5 + 1) b').set (k * 5 + 2) c').set (k * 5 + 3) d').set (k * 5 + 4) e' = P ++ ([a', b', c', d', e'] ++ S) := by
  rw [← hP]
  simp
/-- The cells of a row after a whole element has been stored. -/
theorem setD {vs : List Dw} {k : Nat} (hk : k < vs.length) (y : Dw) :
    ((((((cellsD vs).set (k * 5) (.int .i64 y.n.a)).set (k * 5 + 1) (.int .i64 y.n.b)).set (k * 5 + 2) (.int .i64 y.n.c)).set (k * 5 + 3) (.int .i64 y.n.d)).set (k * 5 + 4) (.int .i64 y.e)) = cellsD (vs.set k y) := by
  have hd := drop_cons (l := vs) (k := k) hk
  have e1 : cellsD vs = _ := fm_split length_Dw hd
  have e2 : cellsD (vs.set k y) = _ := fm_set length_Dw hk
  have hl : ((vs.flatMap Dw.cells).take (k * 5)).length = k * 5 := by
    rw [List.length_take, fm_length length_Dw]
    omega
  rw [e2, e1]
  exact set5 hl
end Go.Proofs.YtgnallcfahpjmaaR
