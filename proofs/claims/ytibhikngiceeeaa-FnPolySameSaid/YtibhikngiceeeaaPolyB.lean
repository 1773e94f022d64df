/- Plain facts on gates that fit a polynomial; what PhasePolynomialApplyGate comes to. -/
import Derived.Test.YtibhikngiceeeaaPolyI
import Derived.Test.YtibhikngiceeeaaPolyA
namespace Go.Proofs.Ytibhikngiceeeaa
open Go.RowKit

def RetPB (r : Po × Bool) (w : World) (e : Ending) (w' : World) : Prop := ∃ v, e = .returned (.tuple #[v, .bool r.2]) ∧ OwnPoly w' w.heap.size r.1.N r.1.H r.1.t r.1.o v ∧ Below w.heap.size w w'
theorem okG_abn {k a b c n : Int} (h : okG k a b c n = true) : 1 ≤ n ∧ n ≤ 4 ∧ 0 ≤ a ∧ a < n ∧ 0 ≤ b ∧ b < n := by
  unfold okG at h
  simp only [Bool.and_eq_true, decide_eq_true_eq] at h
  obtain ⟨h1, h2, h3⟩ := h
  obtain ⟨h4, h5⟩ := inB_iff.1 h1
  rcases arity_cases k with ⟨_, _, ha⟩ | ⟨_, _, ha⟩ | ⟨_, ha⟩ | ⟨_, ha⟩
  · rw [ha] at h3
    simp [okQ, badQ, inB, hasI] at h3
    omega
  · rw [ha] at h3
    simp [okQ, badQ, inB, hasI] at h3
    omega
  · rw [ha] at h3
    simp [okQ, badQ, inB, hasI] at h3
    omega
  · omega
theorem okG_ne {k a b c n : Int} (h : okG k a b c n = true) (hk : arity k = 2) : b ≠ a := by
  unfold okG at h
  simp only [Bool.and_eq_true, decide_eq_true_eq] at h
  obtain ⟨h1, h2, h3⟩ := h
  rw [hk] at h3
  simp [okQ, badQ, inB, hasI] at h3
  omega
theorem okP_parts {p : Po} {g : Gt} (h : okP p g = true) : okG g.k g.a g.b g.c p.N = true ∧ (p.o.length : Int) = p.N := by
  unfold okP at h
  simpa using h
theorem okP_no {p : Po} {g : Gt} (h : okP p g = false) : okG g.k g.a g.b g.c p.N = false ∨ (okG g.k g.a g.b g.c p.N = true ∧ (p.o.length : Int) ≠ p.N) := by
  unfold okP at h
  cases h1 : okG g.k g.a g.b g.c p.N
  · exact .inl rfl
  · right
    rw [h1] at h
    simpa using h
theorem below_al {a w : World} {o : Obj} (h : Below a.heap.size a w) : Below a.heap.size a (w.alloc o) := h.alloc h.size _
theorem own_set_ne {w : World} {base : Nat} {e : TypeId} {sz n : Nat} {v : Value} {xs : List Value} (h : w.ownsRow base e sz v n xs) {p : Addr} (hp : some p.block ≠ v.ownBlock) (u : Value) : (w.setCell p u).ownsRow base e sz v n xs := by
  have hg : w.grownBy (w.setCell p u) (some p.block) := ⟨rfl, rfl, rfl, by simp [World.setCell], fun k hk hne => Below.heap_setCell w _ _ k (fun e => hne (by rw [e]))⟩
  exact h.kept hg (.inr (fun e => hp e.symm))
theorem bx_b {w w' : World} {g t B : Nat} {cs : Array Value} (h : Bx w g t cs) (hb : Below B w w') (hg : g < B) : Bx w' g t cs := (hb.block g hg).trans h
theorem xor_comm64 (a b : Int) : bits .xor .i64 a b = bits .xor .i64 b a := by
  show IntKind.i64.wrap ((BitVec.ofInt 64 a ^^^ BitVec.ofInt 64 b).toNat : Int) = IntKind.i64.wrap ((BitVec.ofInt 64 b ^^^ BitVec.ofInt 64 a).toNat : Int)
  rw [BitVec.xor_comm]
theorem own2At {w : World} {base : Nat} {e : TypeId} {n c : Nat} {A : Option Addr} {l : List (Int × Int)} (ho : w.ownsRow base e 2 (.slice A n c) n (cellsP l)) {k : Nat} (hk : k < n) :
    ∃ (g : Nat), A = some ⟨g, 0, none⟩ ∧ base ≤ g ∧ g < w.heap.size ∧ w.cell? ⟨g, k * 2, none⟩ = some (.int .i64 (l.getD k (0, 0)).1) ∧ w.cell? ⟨g, k * 2 + 1, none⟩ = some (.int .i64 (l.getD k (0, 0)).2) ∧ w.frozen? ⟨g, k * 2, none⟩ = false ∧ w.frozen? ⟨g, k * 2 + 1, none⟩ = false := by
  have hL : l.length = n := by have := ho.1; rw [length_cellsP] at this; omega
  obtain ⟨g, rfl⟩ := own_some ho (by omega)
  have hd : l.drop k = (l.getD k (0, 0)) :: l.drop (k + 1) := by
    rw [drop_cons (by omega), List.getD_eq_getElem?_getD, List.getElem?_eq_getElem (by omega), Option.getD_some]
  have f2 := flat2 _ _ _ _ hd
  have hg := ho.lt g rfl
  exact ⟨g, rfl, hg.1, hg.2, (ho.cellAt (k * 2) (by omega)).trans f2.1, (ho.cellAt (k * 2 + 1) (by omega)).trans f2.2, ho.frozenAt _, ho.frozenAt _⟩
theorem rd2At {w : World} {n : Nat} {A : Option Addr} {l : List (Int × Int)} (h : RdP w A n l) {k : Nat} (hk : k < n) :
    ∃ (b off : Nat), A = some ⟨b, off, none⟩ ∧ b < w.heap.size ∧ w.cell? ⟨b, off + k * 2, none⟩ = some (.int .i64 (l.getD k (0, 0)).1) ∧ w.cell? ⟨b, off + k * 2 + 1, none⟩ = some (.int .i64 (l.getD k (0, 0)).2) := by
  obtain ⟨b, off, x, y, e, hb, hd, c0, c1⟩ := h.at_ hk
  have hx : l.getD k (0, 0) = (x, y) := by
    have := congrArg (fun r => r[0]?) hd
    rw [List.getD_eq_getElem?_getD]
    simp at this
    rw [this]; rfl
  rw [hx]
  exact ⟨b, off, e, hb, c0, c1⟩
theorem set_pair (l : List (Int × Int)) (k : Nat) (x y : Int) (hk : k < l.length) : ((cellsP l).set (k * 2) (.int .i64 x)).set (k * 2 + 1) (.int .i64 y) = cellsP (l.set k (x, y)) := by
  obtain ⟨a, z, r, rfl, rfl⟩ : ∃ a z r, l = a ++ z :: r ∧ a.length = k := ⟨l.take k, l[k], l.drop (k + 1), by rw [← drop_cons hk, List.take_append_drop], by rw [List.length_take]; omega⟩
  have hlen := length_cellsP a
  rw [cellsP_append, List.set_append, if_neg (by omega), List.set_append, if_neg (by omega), hlen]
  simp [cellsP, show a.length * 2 + 1 - a.length * 2 = 1 by omega]
theorem set_two (l : List (Int × Int)) (k : Nat) (y : Int) (hk : k < l.length) : (cellsP l).set (k * 2 + 1) (.int .i64 y) = cellsP (l.set k ((l.getD k (0, 0)).1, y)) := by
  have h := set_pair l k (l.getD k (0, 0)).1 y hk
  rw [← h]
  congr 1
  have f2 := (flat2 l k (l.getD k (0, 0)) (l.drop (k + 1)) (by rw [drop_cons hk, List.getD_eq_getElem?_getD, List.getElem?_eq_getElem hk, Option.getD_some])).1
  apply List.ext_getElem?
  intro i
  rw [List.getElem?_set]
  split
  · subst i
    rw [f2]
    split
    · rfl
    · rename_i h0
      rw [List.getElem?_eq_none (by omega)] at f2
      cases f2
  · rfl
end Go.Proofs.Ytibhikngiceeeaa
