/- Plain: a bridge does what a CX from its first to its last qubit does, on every basis state of four qubits: by the kernel, for every way. Nothing is asked. -/
import Derived.Test.YtgnallcfahpjmaaRDomF
import Derived.Test.YtgnallcfahpjmaaRLong
import Derived.Test.YtgnallcfahpjmaaRPermQ
namespace Go.Proofs.YtgnallcfahpjmaaR
set_option linter.unusedVariables false

def ns4 : List Int := [0, 1, 2, 3]
def all4 : List (List Int) := ns4.flatMap fun a => ns4.flatMap fun b => ns4.flatMap fun c => ns4.map fun d => [a, b, c, d]
def ways4 : List (List Int) := all4.filter isPerm
def endCX (z : List Int) : List Gt := [⟨9, z.getD 0 0, z.getD (z.length - 1) 0, 0⟩]
def bridgeOk (p : List Int) : Bool := [2, 3, 4].all fun k => sameAll (longCX (p.take k)) (endCX (p.take k)) 4
theorem ways4_len : ways4.length = 24 := by decide +kernel
set_option maxRecDepth 100000 in
theorem bridge_0 : ((ways4.drop 0).take 4).all bridgeOk = true := by decide +kernel
set_option maxRecDepth 100000 in
theorem bridge_1 : ((ways4.drop 4).take 4).all bridgeOk = true := by decide +kernel
set_option maxRecDepth 100000 in
theorem bridge_2 : ((ways4.drop 8).take 4).all bridgeOk = true := by decide +kernel
set_option maxRecDepth 100000 in
theorem bridge_3 : ((ways4.drop 12).take 4).all bridgeOk = true := by decide +kernel
set_option maxRecDepth 100000 in
theorem bridge_4 : ((ways4.drop 16).take 4).all bridgeOk = true := by decide +kernel
set_option maxRecDepth 100000 in
theorem bridge_5 : ((ways4.drop 20).take 4).all bridgeOk = true := by decide +kernel
theorem bridge_all : ways4.all bridgeOk = true := by
  have z : (ways4.drop 24).all bridgeOk = true := by rw [List.drop_eq_nil_of_le (by rw [ways4_len]; omega)]; rfl
  have z := all_cut bridge_5 z
  have z := all_cut bridge_4 z
  have z := all_cut bridge_3 z
  have z := all_cut bridge_2 z
  have z := all_cut bridge_1 z
  have z := all_cut bridge_0 z
  exact z
theorem ns4_mem {x : Int} (h : 0 ≤ x ∧ x ≤ 3) : x ∈ ns4 := by
  obtain rfl | rfl | rfl | rfl : x = 0 ∨ x = 1 ∨ x = 2 ∨ x = 3 := by omega
  all_goals decide
theorem ways4_mem {p : List Int} (h : isPerm p = true) (hl : p.length = 4) : p ∈ ways4 := by
  refine List.mem_filter.2 ⟨?_, h⟩
  have hb := ((isPerm_iff p).1 h).1
  rw [hl] at hb
  match p, hl with
  | [a, b, c, d], _ =>
    simp only [all4, List.mem_flatMap, List.mem_map]
    have f := fun y (hy : y ∈ [a, b, c, d]) => ns4_mem (x := y) (by have := hb y hy; omega)
    exact ⟨a, f a (by simp), b, f b (by simp), c, f c (by simp), d, f d (by simp), rfl⟩
theorem bridge_law {p : List Int} (h : isPerm p = true) (hl : p.length = 4) {k : Nat} (h2 : 2 ≤ k) (h4 : k ≤ 4) : sameAll (longCX (p.take k)) (endCX (p.take k)) 4 = true := by
  have := List.all_eq_true.1 bridge_all p (ways4_mem h hl)
  refine List.all_eq_true.1 this k ?_
  obtain rfl | rfl | rfl : k = 2 ∨ k = 3 ∨ k = 4 := by omega
  all_goals decide
end Go.Proofs.YtgnallcfahpjmaaR
