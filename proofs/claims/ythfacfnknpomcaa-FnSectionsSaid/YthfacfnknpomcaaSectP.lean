/- Plain law of PhaseSections: what is maximal; the contract of DrawPhaseSections. Nothing is asked. -/
import Derived.Test.YthfacfnknpomcaaSecS
import Derived.Test.YthfacfnknpomcaaDrawC
namespace Go.Proofs.Ythfacfnknpomcaa
open Go.RowKit
set_option linter.unusedVariables false

theorem secL_flatS : ∀ (gs : List Gt) (o : Bool) (acc : List (List Gt)), (o = true → acc ≠ []) → (secL o acc gs).flatten = acc.flatten ++ gs
  | [], o, acc, _ => by rw [secL]; simp
  | g :: r, o, acc, h => by
    rw [secL]
    split
    · rename_i hh
      have ho : o = true := by rw [Bool.and_eq_true] at hh; exact hh.1
      have hne := h ho
      have hl : 0 < acc.length := List.length_pos_iff.2 hne
      have hne2 : addLast acc g ≠ [] := by intro e; have := congrArg List.length e; simp [addLast] at this; exact hne this
      rw [secL_flatS r _ _ (fun _ => hne2)]
      obtain ⟨ini, last, rfl⟩ : ∃ ini last, acc = ini ++ [last] := ⟨acc.dropLast, acc.getLast hne, (List.dropLast_concat_getLast hne).symm⟩
      simp [addLast]
    · rw [secL_flatS r _ _ (fun _ => by simp)]
      simp
theorem secs_flatS (gs : List Gt) : (secs gs).flatten = gs := by unfold secs; rw [secL_flatS _ _ _ (by simp)]; rfl
theorem secL_cntS : ∀ (gs : List Gt) (o : Bool) (acc : List (List Gt)), (secL o acc gs).length ≤ acc.length + gs.length
  | [], o, acc => by rw [secL]; simp
  | g :: r, o, acc => by
    rw [secL]
    split
    · have := secL_cntS r (ph g.k) (addLast acc g)
      simp only [addLast, List.length_set, List.length_cons] at this ⊢
      omega
    · have := secL_cntS r (ph g.k) (acc ++ [[g]])
      simp only [List.length_append, List.length_cons, List.length_nil] at this ⊢
      omega
theorem secs_cntS (gs : List Gt) : (secs gs).length ≤ gs.length := by have := secL_cntS gs false []; simpa [secs] using this
theorem own0_bxS {W : World} {g base : Nat} {e : TypeId} {sz : Nat} (hb : base ≤ g) (h : Bx W g e #[]) : W.ownsRow base e sz (.slice (some ⟨g, 0, none⟩) 0 0) 0 [] :=
  ⟨by simp, .inr ⟨g, 0, #[], rfl, hb, h, Nat.le_refl _, by simp, by simp, by simp⟩⟩
def allPh (s : List Gt) : Bool := s.all fun g => ph g.k
def okSec (b : Bool) (s : List Gt) : Bool := (!(s.length == 0)) && ((!(b && allPh s)) && (allPh s || s.length == 1))
def flagS : Bool → List (List Gt) → Bool
  | b, [] => b
  | _, s :: r => flagS (allPh s) r
def goodS : Bool → List (List Gt) → Bool
  | _, [] => true
  | b, s :: r => okSec b s && goodS (allPh s) r
theorem goodS_snoc : ∀ (l : List (List Gt)) (b : Bool) (s : List Gt), goodS b (l ++ [s]) = (goodS b l && okSec (flagS b l) s)
  | [], b, s => by simp [goodS, flagS]
  | x :: l, b, s => by simp only [List.cons_append, goodS, flagS]; rw [goodS_snoc l, Bool.and_assoc]
theorem flagS_snoc : ∀ (l : List (List Gt)) (b : Bool) (s : List Gt), flagS b (l ++ [s]) = allPh s
  | [], b, s => by simp [flagS]
  | x :: l, b, s => by simp only [List.cons_append, flagS]; exact flagS_snoc l _ s
theorem addLast_snoc (ini : List (List Gt)) (s : List Gt) (g : Gt) : addLast (ini ++ [s]) g = ini ++ [s ++ [g]] := by simp [addLast]
theorem secL_good : ∀ (gs : List Gt) (o : Bool) (acc : List (List Gt)), goodS false acc = true → flagS false acc = o → goodS false (secL o acc gs) = true
  | [], o, acc, h, _ => by rw [secL]; exact h
  | g :: r, o, acc, h, hf => by
    rw [secL]
    split
    · rename_i hh
      rw [Bool.and_eq_true] at hh
      obtain ⟨rfl, hg⟩ := hh
      have hne : acc ≠ [] := by rintro rfl; simp [flagS] at hf
      obtain ⟨ini, s, rfl⟩ : ∃ ini s, acc = ini ++ [s] := ⟨acc.dropLast, acc.getLast hne, (List.dropLast_concat_getLast hne).symm⟩
      rw [flagS_snoc] at hf
      rw [goodS_snoc] at h
      have ha : allPh (s ++ [g]) = true := by unfold allPh at hf ⊢; rw [List.all_append, hf]; simpa using hg
      rw [addLast_snoc]
      refine secL_good r _ _ ?_ ?_
      · rw [goodS_snoc]
        rw [Bool.and_eq_true] at h ⊢
        refine ⟨h.1, ?_⟩
        have h2 := h.2
        unfold okSec at h2 ⊢
        rw [ha]
        rw [hf] at h2
        simp only [Bool.and_eq_true] at h2 ⊢
        exact ⟨by simp, h2.2.1, by simp⟩
      · rw [flagS_snoc, ha, hg]
    · rename_i hh
      refine secL_good r _ _ ?_ ?_
      · rw [goodS_snoc, h]
        have ha : allPh [g] = ph g.k := by simp [allPh]
        rw [hf]
        unfold okSec
        rw [ha]
        cases o <;> cases hp : ph g.k <;> simp_all
      · rw [flagS_snoc]; simp [allPh]
theorem secs_good (gs : List Gt) : goodS false (secs gs) = true := secL_good gs false [] rfl rfl
theorem goodS_at {l : List (List Gt)} {k : Nat} {x : List Gt} {b : Bool} (h : goodS b l = true) (hd : l.drop k = x :: l.drop (k + 1)) : okSec (flagS b (l.take k)) x = true := by
  have e : l = (l.take k ++ [x]) ++ l.drop (k + 1) := by rw [List.append_assoc, List.singleton_append, ← hd, List.take_append_drop]
  have g2 : ∀ (a c : List (List Gt)) (b : Bool), goodS b (a ++ c) = true → goodS b a = true := by
    intro a
    induction a with
    | nil => intro c b _; rfl
    | cons y a ih => intro c b hh; simp only [List.cons_append, goodS, Bool.and_eq_true] at hh ⊢; exact ⟨hh.1, ih _ _ hh.2⟩
  rw [e] at h
  have h3 := g2 _ _ _ h
  rw [goodS_snoc, Bool.and_eq_true] at h3
  exact h3.2
theorem allPh_snoc {x : List Gt} {j : Nat} {g : Gt} (hd : x.drop j = g :: x.drop (j + 1)) : allPh (x.take (j + 1)) = (allPh (x.take j) && ph g.k) := by
  rw [take_snoc hd]; simp [allPh]
theorem flagS_at {l : List (List Gt)} {k : Nat} {x : List Gt} {b : Bool} (hd : l.drop k = x :: l.drop (k + 1)) : flagS b (l.take (k + 1)) = allPh x := by
  rw [take_snoc hd, flagS_snoc]
def RetDG (w : World) (e : Ending) (w' : World) : Prop := ∃ (A : Option Addr) (n c : Nat) (gs : List Gt), e = .returned (.slice A n c) ∧ gs.length = n ∧ n ≤ 64 ∧ w'.ownsRow w.heap.size 38 4 (.slice A n c) n (cellsG gs) ∧ Below w.heap.size w w'
set_option maxRecDepth 100000 in
set_option maxHeartbeats 400000 in
theorem s_DrawSections (A : Option Addr) (n cap : Nat) (zs : List Int) (w : World) (h : RdB w A n zs) (hz : ∀ z ∈ zs, 0 ≤ z ∧ z ≤ 255) (hn : n ≤ 1048576) :
    Calls Try.prog 42 #[.slice A n cap] w (RetDG w) := by
  have H := Lib.hid h
  have HZ := Lib.hid hz
  clear h hz
  go_enter Try.func42, Try.ntmps42
  go_wp2_with fail
  refine (s_l1New _ _ _ _ _ H.out HZ.out hn).mono ?_
  rintro e w1 ⟨g, rfl, hc1, hg, b1⟩
  go_wp2_with fail
  refine (s_l11Bent g 14 _ hc1 (by omega)).mono ?_
  rintro e w2 ⟨N, A2, n2, c2, gs, rfl, hl, h5, _, o2, hc2, g2⟩
  have OO := Lib.hid (ownsRow_base o2 b1.size)
  have BB := Lib.hid (b1.trans (below_of_grown g2 b1.size (fun k hk => by injection hk with hk; omega)))
  have HL := Lib.hid hl
  clear o2 g2 hl hc2
  have hf : (Instr.field 119 (.agg #[.int .i64 N, .slice A2 n2 c2]) 1).run Try.prog w2 = .ok (.slice A2 n2 c2) w2 := by kernel_rfl
  go_wp2_with fail
  go_ret
  exact ⟨A2, n2, c2, gs, rfl, HL.out, h5, OO.out, BB.out⟩
end Go.Proofs.Ythfacfnknpomcaa
