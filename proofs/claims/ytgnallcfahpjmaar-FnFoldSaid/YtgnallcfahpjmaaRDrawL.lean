/- Contracts of the drawing of phase gates and polynomials: l32Gate, l32Gates, l32Poly. -/
import Derived.Test.YtgnallcfahpjmaaRDrawC
import Derived.Test.YtgnallcfahpjmaaRPolyL
namespace Go.Proofs.YtgnallcfahpjmaaR
open Go.RowKit
set_option linter.unusedVariables false

def phL (k : Int) : Bool := k == 1 || (k == 9 || (k == 11 || (units k != 0)))
def okPh (n : Nat) (g : Gt) : Bool := okG g.k g.a g.b g.c n && phL g.k
theorem actP_ph {p : Po} {g : Gt} (h : phL g.k = true) : (actP p g).2 = true ∧ (actP p g).1.N = p.N ∧ (actP p g).1.o.length = p.o.length := by
  unfold actP
  unfold phL at h
  by_cases h1 : (g.k == 1) = true
  · rw [if_pos h1]; simp
  · rw [if_neg h1]
    by_cases h2 : (g.k == 9) = true
    · rw [if_pos h2]; simp
    · rw [if_neg h2]
      by_cases h3 : (g.k == 11) = true
      · rw [if_pos h3]; simp
      · rw [if_neg h3]
        by_cases h4 : (units g.k == 0) = true
        · simp [h1, h2, h3] at h
          simp at h4
          exact absurd h4 h
        · rw [if_neg h4]
          by_cases h5 : ((at2 p.o g.a).2 == 0) = true
          · rw [if_pos h5]; simp
          · rw [if_neg h5]; simp
theorem applyP_ph {p : Po} {g : Gt} {n : Nat} (h : okPh n g = true) (hN : p.N = n) (ho : p.o.length = n) : (applyP p g).2 = true ∧ (applyP p g).1.N = n ∧ (applyP p g).1.o.length = n := by
  unfold okPh at h
  rw [Bool.and_eq_true] at h
  have hk : okP p g = true := by unfold okP; rw [hN, h.1]; simp; omega
  rw [applyP_yes hk]
  have := actP_ph (p := p) h.2
  exact ⟨this.1, by rw [this.2.1, hN], by rw [this.2.2, ho]⟩
theorem compL_ph {n : Nat} : ∀ (gs : List Gt) (p : Po), (∀ g ∈ gs, okPh n g = true) → p.N = n → p.o.length = n → (compL p gs).2 = true ∧ (compL p gs).1.N = n ∧ (compL p gs).1.o.length = n
  | [], p, _, hN, ho => ⟨rfl, hN, ho⟩
  | g :: r, p, h, hN, ho => by
    obtain ⟨h1, h2, h3⟩ := applyP_ph (h g (by simp)) hN ho
    rw [compL_go h1]
    exact compL_ph r _ (fun x hx => h x (by simp [hx])) h2 h3
theorem compP_ph {n : Nat} {gs : List Gt} (h1 : 1 ≤ n) (h4 : n ≤ 4) (h : ∀ g ∈ gs, okPh n g = true) : (compP gs n).2 = true ∧ (compP gs n).1.N = n ∧ (compP gs n).1.o.length = n := by
  have hin : inB (n : Int) 1 4 = true := inB_t (by omega) (by omega)
  unfold compP
  rw [if_pos hin]
  have e : idP (n : Int) = ⟨n, 0, [], idO n⟩ := by unfold idP; rw [if_pos hin]; rfl
  refine compL_ph gs _ h ?_ ?_
  · rw [e]
  · rw [e]; exact idO_len n
theorem ph_pick {y : Int} (h : y ∈ [(1 : Int), 3, 5, 6, 7, 8, 7, 9, 9, 9, 11]) : phL y = true ∧ 1 ≤ arity y := by
  have h2 : y = 1 ∨ y = 3 ∨ y = 5 ∨ y = 6 ∨ y = 7 ∨ y = 8 ∨ y = 9 ∨ y = 11 := by simp at h; omega
  rcases h2 with h | h | h | h | h | h | h | h <;> subst h <;> exact ⟨by decide, by decide⟩

set_option maxRecDepth 100000 in
set_option maxHeartbeats 3200000 in
theorem s_l32Gate (g n : Nat) (w : World) (h : Cur w g) (h1 : 1 ≤ n) (h4 : n ≤ 4) :
    Calls Try.prog 186 #[.pointer (some ⟨g, 0, none⟩), .int .i64 n] w (DrawnG (fun x => okPh n x = true) g w) := by
  have hg := h.lt
  obtain ⟨W1, hW1⟩ : ∃ W1, W1 = (w.alloc (.cells #[.int .i64 0, .int .i64 0, .int .i64 0, .int .i64 0] 63)).alloc (.cells #[.int .i64 1, .int .i64 3, .int .i64 5, .int .i64 6, .int .i64 7, .int .i64 8, .int .i64 7, .int .i64 9, .int .i64 9, .int .i64 9, .int .i64 11] 3) := ⟨_, rfl⟩
  have C1 := Lib.hid (show Cur W1 g from hW1 ▸ cur_alloc (cur_alloc h _) _)
  have X1 := Lib.hid (show Bx W1 w.heap.size 63 #[.int .i64 0, .int .i64 0, .int .i64 0, .int .i64 0] from hW1 ▸ (Bx.new w _ _).alloc _)
  have G1 := Lib.hid (show w.grownBy W1 (some g) from hW1 ▸ dr_alloc (dr_alloc (dr_refl w g) _) _)
  have OL := Lib.hid (show W1.ownsRow (g + 1) 3 1 (.slice (some ⟨w.heap.size + 1, 0, none⟩) 11 11) 11 (cellsI [1, 3, 5, 6, 7, 8, 7, 9, 9, 9, 11]) from by
    have : ((w.alloc (.cells #[.int .i64 0, .int .i64 0, .int .i64 0, .int .i64 0] 63)).alloc (.cells #[.int .i64 1, .int .i64 3, .int .i64 5, .int .i64 6, .int .i64 7, .int .i64 8, .int .i64 7, .int .i64 9, .int .i64 9, .int .i64 9, .int .i64 11] 3)).ownsRow (g + 1) 3 1 (.slice (some ⟨(w.alloc (.cells #[.int .i64 0, .int .i64 0, .int .i64 0, .int .i64 0] 63)).heap.size, 0, none⟩) 11 11) 11 (cellsI [1, 3, 5, 6, 7, 8, 7, 9, 9, 9, 11]) := World.ownsRow_lit (w.alloc (.cells #[.int .i64 0, .int .i64 0, .int .i64 0, .int .i64 0] 63)) #[.int .i64 1, .int .i64 3, .int .i64 5, .int .i64 6, .int .i64 7, .int .i64 8, .int .i64 7, .int .i64 9, .int .i64 9, .int .i64 9, .int .i64 11] 11 (by simp; omega) (by simp [maxLen]) rfl
    rw [World.size_alloc] at this
    rw [hW1]; exact this)
  have HW := Lib.hid hW1
  clear h hW1
  go_enter Try.func186, Try.ntmps186
  go_wp2_with fail
  rw [← HW.out]
  refine (s_l1PickInt g _ 11 11 [1, 3, 5, 6, 7, 8, 7, 9, 9, 9, 11] _ C1.out OL.out (by omega) (by omega)).mono ?_
  rintro e w5 ⟨y, rfl, hy, hc5, g5⟩
  obtain ⟨hp, hk1⟩ := ph_pick hy
  have HP := Lib.hid hp
  have C5 := Lib.hid hc5
  have X5 := Lib.hid (dr_bx g5 X1.out (show w.heap.size ≠ g by omega))
  have G5 := Lib.hid (dr_trans G1.out g5)
  clear hy hc5 g5 hp X1 C1 G1 OL HW
  obtain ⟨ar, har⟩ : ∃ a, arity y = a := ⟨_, rfl⟩
  rw [har] at hk1
  have HAR := Lib.hid har
  have HA7 := Lib.hid (show arity 7 = 1 by decide)
  have HP7 := Lib.hid (show phL 7 = true by decide)
  clear har
  by_cases ht : (n : Int) < ar
  · go_wp2_with fail
    refine (s_Arity _ _).mono ?_
    rintro e w' ⟨rfl, rfl⟩
    rw [HAR.out]
    go_wp2_with fail
    refine (s_l9On g n 7 _ C5.out h1 h4 (by rw [HA7.out]; omega) (by rw [HA7.out]; omega)).mono ?_
    rintro e w9 ⟨k, a, b, c, rfl, ⟨hk', hok⟩, hc9, g9⟩
    have HOK := Lib.hid (show okPh n ⟨k, a, b, c⟩ = true from by have hk'' : k = 7 := hk'; unfold okPh; rw [hok, hk'', HP7.out]; rfl)
    have C9 := Lib.hid hc9
    have X9 := Lib.hid (dr_bx g9 X5.out (show w.heap.size ≠ g by omega))
    have G9 := Lib.hid (dr_trans G5.out g9)
    obtain ⟨q0, q1, q2, q3, f0, f1, f2, f3⟩ := X9.out.four
    have l9 := X9.out.lt
    clear hk' hok hc9 g9 ht hk1
    go_wp2_with fail
    exact bodyPost_ret (v := .agg #[.int .i64 k, .int .i64 a, .int .i64 b, .int .i64 c]) (by simp [results, Try.results186, go_sem, q0, q1, q2, q3]) rfl ⟨k, a, b, c, rfl, HOK.out, cur4 C9.out hg, dr4 G9.out (Nat.le_refl _)⟩
  · go_wp2_with fail
    refine (s_Arity _ _).mono ?_
    rintro e w' ⟨rfl, rfl⟩
    rw [HAR.out]
    go_wp2_with fail
    refine (s_l9On g n y _ C5.out h1 h4 (by rw [HAR.out]; omega) (by rw [HAR.out]; omega)).mono ?_
    rintro e w9 ⟨k, a, b, c, rfl, ⟨hk', hok⟩, hc9, g9⟩
    have HOK := Lib.hid (show okPh n ⟨k, a, b, c⟩ = true from by have hk'' : k = y := hk'; unfold okPh; rw [hok, hk'', HP.out]; rfl)
    have C9 := Lib.hid hc9
    have X9 := Lib.hid (dr_bx g9 X5.out (show w.heap.size ≠ g by omega))
    have G9 := Lib.hid (dr_trans G5.out g9)
    obtain ⟨q0, q1, q2, q3, f0, f1, f2, f3⟩ := X9.out.four
    have l9 := X9.out.lt
    clear hk' hok hc9 g9 ht hk1
    go_wp2_with fail
    exact bodyPost_ret (v := .agg #[.int .i64 k, .int .i64 a, .int .i64 b, .int .i64 c]) (by simp [results, Try.results186, go_sem, q0, q1, q2, q3]) rfl ⟨k, a, b, c, rfl, HOK.out, cur4 C9.out hg, dr4 G9.out (Nat.le_refl _)⟩

def DrawnL (P : Gt → Prop) (B : Nat) (g : Nat) (w : World) (e : Ending) (w' : World) : Prop :=
  ∃ (A : Option Addr) (n c : Nat) (gs : List Gt), e = .returned (.slice A n c) ∧ gs.length = n ∧ n ≤ B ∧ (∀ x ∈ gs, P x) ∧ w'.ownsRow w.heap.size 63 4 (.slice A n c) n (cellsG gs) ∧ Cur w' g ∧ w.grownBy w' (some g)
set_option maxRecDepth 100000 in
set_option maxHeartbeats 1600000 in
theorem s_l32Gates (g n most : Nat) (w : World) (h : Cur w g) (h1 : 1 ≤ n) (h4 : n ≤ 4) (hm : most ≤ 60) :
    Calls Try.prog 146 #[.pointer (some ⟨g, 0, none⟩), .int .i64 n, .int .i64 most] w (DrawnL (fun x => okPh n x = true) most g w) := by
  have hg := h.lt
  have hz4 : (Value.agg #[.int .i64 0, .int .i64 0, .int .i64 0, .int .i64 0]).cells.size = 4 := rfl
  have C1 := Lib.hid (cur_alloc h (.cells #[] 63))
  have G1 := Lib.hid (dr_alloc (dr_refl w g) (.cells #[] 63))
  have O1 := Lib.hid (show (w.alloc (.cells #[] 63)).ownsRow w.heap.size 63 4 (.slice (some ⟨w.heap.size, 0, none⟩) 0 0) 0 (cellsG []) from own0_bx (Nat.le_refl _) (Bx.new w _ _))
  clear h
  go_enter Try.func146, Try.ntmps146
  go_wp2_with fail
  refine (s_l1Below g _ _ C1.out (by omega)).mono ?_
  rintro e w2 ⟨y, rfl, ⟨hy, _⟩, hc, gg⟩
  obtain ⟨hy0, hy1⟩ := hy (by omega)
  obtain ⟨m, rfl⟩ : ∃ m : Nat, y = m := ⟨y.toNat, by omega⟩
  have O2 := Lib.hid (dr_own gg C1.out O1.out (by decide))
  have C2 := Lib.hid hc
  have G2 := Lib.hid (dr_trans G1.out gg)
  clear hy hc gg C1 G1 O1
  go_wp2_with fail
  go_loopg [7, 9] m (fun r s i wr => ∃ (k : Nat) (A : Option Addr) (c : Nat) (gs : List Gt), k + r = m ∧ i = .int .i64 k ∧ s = .slice A k c ∧ gs.length = k ∧ (∀ x ∈ gs, okPh n x = true) ∧ wr.ownsRow w.heap.size 63 4 (.slice A k c) k (cellsG gs) ∧ Cur wr g ∧ w.grownBy wr (some g))
  case atStart => exact ⟨0, _, 0, [], by omega, rfl, rfl, rfl, by simp, O2.out, C2.out, G2.out⟩
  case round =>
    clear C2 O2 G2
    obtain ⟨k, A, c, gs, hk, rfl, rfl, hl, hP, ho, hc, hgr⟩ := hrel
    have HL := Lib.hid hl
    have HP := Lib.hid hP
    have HO := Lib.hid ho
    have HC := Lib.hid hc
    have HG := Lib.hid hgr
    clear hl hP ho hc hgr
    by_cases hlt : k < m
    · go_wp2_with fail
      refine (s_l32Gate g n _ HC.out h1 h4).mono ?_
      rintro e w5 ⟨k5, a5, b5, c5, rfl, hok5, hc5, g5⟩
      have OK5 := Lib.hid hok5
      have O5 := Lib.hid ((dr_own g5 HC.out HO.out (by decide)).alloc (.cells #[.int .i64 k5, .int .i64 a5, .int .i64 b5, .int .i64 c5] 63))
      have C5 := Lib.hid (cur_alloc hc5 (.cells #[.int .i64 k5, .int .i64 a5, .int .i64 b5, .int .i64 c5] 63))
      have G5 := Lib.hid (dr_alloc (dr_trans HG.out g5) (.cells #[.int .i64 k5, .int .i64 a5, .int .i64 b5, .int .i64 c5] 63))
      have hs5 := (dr_trans HG.out g5).size
      clear hok5 hc5 g5
      go_wp2_with (at_builtin; refine wpList_app rfl (.tmp 20) (.tmp 24) 24 rfl Try.underlying24 infoGate hz4 (by decide) rfl O5.out rfl (Rd.lit w5 63 #[.int .i64 k5, .int .i64 a5, .int .i64 b5, .int .i64 c5] 1 4 rfl) (by simp [Value.oneCell']) (by omega) (by decide) (by simp <;> omega) ?_; intro A7 c7 w7 o7 g7; have C7 := Lib.hid (C5.out.row g7 (fun q hq => (by have := (O5.out.lt q hq).1; omega))); have G7 := Lib.hid (dr_row G5.out g7 (fun q hq => (O5.out.lt q hq).1)); have O7 := Lib.hid o7; clear o7 g7)
      go_roundg (gk - 1)
      case measure => omega
      case rel =>
        refine ⟨k + 1, A7, c7, gs ++ [⟨k5, a5, b5, c5⟩], by omega, by go_num, rfl, by simp [HL.out], ?_, by rw [cellsG_append]; exact O7.out, C7.out, G7.out⟩
        intro x hx
        rcases List.mem_append.1 hx with hx | hx
        · exact HP.out x hx
        · rw [List.mem_singleton] at hx; rw [hx]; exact OK5.out
    · obtain rfl : k = m := by omega
      go_wp2_with fail
      go_ret
      exact ⟨A, k, c, gs, rfl, HL.out, by omega, HP.out, HO.out, HC.out, HG.out⟩
def DrawnP (Q : Int → List (Int × Int) → Prop) (g : Nat) (w : World) (e : Ending) (w' : World) : Prop :=
  ∃ (N H : Int) (A : Option Addr) (nT c : Nat) (t : List (Int × Int)) (B : Option Addr) (nO d : Nat) (o : List (Int × Int)), e = .returned (.agg #[.int .i64 N, .int .i64 H, .slice A nT c, .slice B nO d]) ∧ nT ≤ 12 ∧ nO ≤ 4 ∧ Q N o ∧
    w'.ownsRow w.heap.size 36 2 (.slice A nT c) nT (cellsP t) ∧ w'.ownsRow w.heap.size 93 2 (.slice B nO d) nO (cellsP o) ∧ Cur w' g ∧ w.grownBy w' (some g)
end Go.Proofs.YtgnallcfahpjmaaR
