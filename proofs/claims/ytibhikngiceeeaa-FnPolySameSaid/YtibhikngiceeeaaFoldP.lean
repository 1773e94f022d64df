/- Plain: what phase folding comes to. Nothing is asked. -/
import Derived.Test.YtibhikngiceeeaaPolyK
import Derived.Test.YtibhikngiceeeaaRot
namespace Go.Proofs.Ytibhikngiceeeaa
open Go.RowKit

/-- The coefficient of the first term with a mask. -/
def coefT : List (Int × Int) → Int → Int
  | [], _ => 0
  | p :: r, m => if (p.1 == m) = true then p.2 else coefT r m
def turnC (c f : Int) : Int := if (f == 1) = true then (-c) % 8 else c
/-- The gates that folding puts in the place of a row of gates: t the whole's terms, p the polynomial so far, met the masks met, acc the gates so far. -/
def foldL (t : List (Int × Int)) : Po → List Int → List Gt → List Gt → List Gt
  | _, _, acc, [] => acc
  | p, met, acc, g :: r =>
    if (units g.k == 0) = true then foldL t (applyP p g).1 met (acc ++ [g]) r
    else if met.any (· == (at2 p.o g.a).1) = true then foldL t (applyP p g).1 met acc r
    else foldL t (applyP p g).1 (met ++ [(at2 p.o g.a).1]) (acc ++ rotG (turnC (coefT t (at2 p.o g.a).1) (at2 p.o g.a).2) g.a) r
def foldP (gs : List Gt) (n : Int) : List Gt × Int :=
  if (compP gs n).2 = true then
    (foldL (compP gs n).1.t (idP n) [] [] gs, ((compP gs n).1.H - (compP (foldL (compP gs n).1.t (idP n) [] [] gs) n).1.H) % 8)
  else (gs, 0)
theorem foldP_no {gs : List Gt} {n : Int} (h : (compP gs n).2 = false) : foldP gs n = (gs, 0) := by unfold foldP; rw [h]; rfl
theorem foldP_yes {gs : List Gt} {n : Int} (h : (compP gs n).2 = true) : foldP gs n = (foldL (compP gs n).1.t (idP n) [] [] gs, ((compP gs n).1.H - (compP (foldL (compP gs n).1.t (idP n) [] [] gs) n).1.H) % 8) := by unfold foldP; rw [if_pos h]
theorem foldL_len (t : List (Int × Int)) : ∀ (r : List Gt) (p : Po) (met : List Int) (acc : List Gt), (foldL t p met acc r).length ≤ acc.length + 2 * r.length
  | [], _, _, acc => by simp [foldL]
  | g :: r, p, met, acc => by
    rw [foldL]
    split
    · have := foldL_len t r (applyP p g).1 met (acc ++ [g])
      simp at this ⊢; omega
    · split
      · have := foldL_len t r (applyP p g).1 met acc
        simp at this ⊢; omega
      · have := foldL_len t r (applyP p g).1 (met ++ [(at2 p.o g.a).1]) (acc ++ rotG (turnC (coefT t (at2 p.o g.a).1) (at2 p.o g.a).2) g.a)
        have h2 := rotG_len (turnC (coefT t (at2 p.o g.a).1) (at2 p.o g.a).2) g.a
        have h3 := rotK_len (turnC (coefT t (at2 p.o g.a).1) (at2 p.o g.a).2)
        rw [List.length_append] at this
        rw [List.length_cons]
        omega
theorem foldP_len (gs : List Gt) (n : Int) : (foldP gs n).1.length ≤ 2 * gs.length := by
  unfold foldP
  split
  · have := foldL_len (compP gs n).1.t gs (idP n) [] []
    simpa using this
  · show gs.length ≤ _; omega
/-- While the whole can be reckoned, each gate fits. -/
theorem compL_ok {p : Po} {g : Gt} {r : List Gt} (h : (compL p (g :: r)).2 = true) : (applyP p g).2 = true ∧ (compL (applyP p g).1 r).2 = true := by
  cases h2 : (applyP p g).2
  · rw [compL_no h2] at h; cases h
  · rw [compL_go h2] at h; exact ⟨rfl, h⟩
theorem applyP_okP {p : Po} {g : Gt} (h : (applyP p g).2 = true) : okP p g = true := by
  cases h2 : okP p g
  · rw [applyP_no h2] at h; cases h
  · rfl
theorem compL_fit {p : Po} {g : Gt} {r : List Gt} (h : (compL p (g :: r)).2 = true) : 0 ≤ g.a ∧ g.a < p.o.length ∧ p.o.length ≤ 4 := by
  have h1 := okP_parts (applyP_okP (compL_ok h).1)
  have h2 := okG_abn h1.1
  omega
theorem foldL_0 {t : List (Int × Int)} {p q : Po} {met : List Int} {acc : List Gt} {g : Gt} {r : List Gt} (hu : (units g.k == 0) = true) (hq : applyP p g = (q, true)) : foldL t p met acc (g :: r) = foldL t q met (acc ++ [g]) r := by
  rw [foldL, if_pos hu, hq]
theorem foldL_old {t : List (Int × Int)} {p q : Po} {met : List Int} {acc : List Gt} {g : Gt} {r : List Gt} {x y : Int} (hu : (units g.k == 0) = false) (hx : at2 p.o g.a = (x, y)) (hm : met.any (· == x) = true) (hq : applyP p g = (q, true)) : foldL t p met acc (g :: r) = foldL t q met acc r := by
  rw [foldL, if_neg (by rw [hu]; simp), hx, if_pos hm, hq]
theorem foldL_new {t : List (Int × Int)} {p q : Po} {met : List Int} {acc : List Gt} {g : Gt} {r : List Gt} {x y : Int} (hu : (units g.k == 0) = false) (hx : at2 p.o g.a = (x, y)) (hm : met.any (· == x) = false) (hq : applyP p g = (q, true)) : foldL t p met acc (g :: r) = foldL t q (met ++ [x]) (acc ++ rotG (turnC (coefT t x) y) g.a) r := by
  rw [foldL, if_neg (by rw [hu]; simp), hx, if_neg (by rw [hm]; simp), hq]
theorem turnC_1 {c y : Int} (h : (y == 1) = true) : turnC c y = (-c) % 8 := by unfold turnC; rw [if_pos h]
theorem turnC_0 {c y : Int} (h : (y == 1) = false) : turnC c y = c := by unfold turnC; rw [if_neg (by rw [h]; simp)]
theorem compL_next {p q : Po} {g : Gt} {r : List Gt} (h : (compL p (g :: r)).2 = true) (hq : applyP p g = (q, true)) : (compL q r).2 = true := by
  have := (compL_ok h).2
  rw [hq] at this
  exact this
theorem compP_in {gs : List Gt} {n : Int} {M : Po} (h : compP gs n = (M, true)) : inB n 1 4 = true ∧ compL (idP n) gs = (M, true) := by
  cases hin : inB n 1 4
  · unfold compP at h; rw [hin] at h; cases h
  · unfold compP at h; rw [hin] at h; exact ⟨rfl, h⟩
theorem idP_len {n : Int} (h : inB n 1 4 = true) : (idP n).t.length = 0 ∧ (idP n).o.length ≤ 4 := by
  obtain ⟨h1, h4⟩ := inB_iff.1 h
  have e : idP n = ⟨n, 0, [], idO n.toNat⟩ := by unfold idP; rw [if_pos h]
  rw [e]
  exact ⟨rfl, by rw [idO_len]; omega⟩
def RetGI (r : List Gt × Int) (w : World) (e : Ending) (w' : World) : Prop := ∃ A c, e = .returned (.tuple #[.slice A r.1.length c, .int .i64 r.2]) ∧ w'.ownsRow w.heap.size 55 4 (.slice A r.1.length c) r.1.length (cellsG r.1) ∧ Below w.heap.size w w'
end Go.Proofs.Ytibhikngiceeeaa
