/- Contracts of coefficient (impl) and l33Coef (spec); what the loops of FoldPhases keep. At most 2^40 terms. -/
import Derived.Test.YtgnallcfahpjmaaRFoldP
import Derived.Test.YtgnallcfahpjmaaRPolyX
import Derived.Test.YtgnallcfahpjmaaRMapI
namespace Go.Proofs.YtgnallcfahpjmaaR
open Go.RowKit
set_option linter.unusedVariables false

theorem coefT_hit {t r : List (Int × Int)} {k : Nat} {x y m : Int} (hd : t.drop k = (x, y) :: r) (h : (x == m) = true) : coefT (t.drop k) m = y := by rw [hd, coefT, if_pos h]
theorem coefT_miss {t r : List (Int × Int)} {k : Nat} {x y m : Int} (hd : t.drop k = (x, y) :: r) (h : (x == m) = false) : coefT (t.drop k) m = coefT r m := by rw [hd, coefT, if_neg (by rw [h]; simp)]
set_option maxHeartbeats 1600000 in
theorem i_coef (N H : Int) (AT AO : Option Addr) (nT cT nO cO : Nat) (t : List (Int × Int)) (m : Int) (w : World) (hT : RdP w AT nT t) (b1 : nT ≤ 1099511627776) :
    Calls Try.prog 78 #[.agg #[.int .i64 N, .int .i64 H, .slice AT nT cT, .slice AO nO cO], .int .i64 m] w fun e w' => e = .returned (.int .i64 (coefT t m)) ∧ Below w.heap.size w w' := by
  have HT := Lib.hid hT
  clear hT
  have BZ := Lib.hid ((Below.refl w.heap.size w).alloc (Nat.le_refl _) (.cells #[.int .i64 N, .int .i64 H, .slice AT nT cT, .slice AO nO cO] 32))
  obtain ⟨R, hR⟩ : ∃ R, coefT t m = R := ⟨_, rfl⟩
  rw [hR]
  have HR := Lib.hid hR
  clear hR
  go_enter Try.func78, Try.ntmps78
  go_wp2_with fail
  go_loopg [10] nT (fun r j wr => ∃ k : Nat, k + r = nT ∧ j = .int .i64 k ∧ coefT (t.drop k) m = R ∧ Below w.heap.size w wr)
  case atStart => exact ⟨0, by omega, rfl, HR.out, BZ.out⟩
  case round =>
    obtain ⟨k, hk, rfl, hq, hb⟩ := hrel
    have HQ := Lib.hid hq
    have HB := Lib.hid hb
    have hbs := hb.size
    clear hq hb
    by_cases hlt : k < nT
    · obtain ⟨g, off, x, y, rfl, hBb, hd, c0, c1⟩ := (HT.out.below HB.out).at_ hlt
      have HD := Lib.hid hd
      have hkI : (k : Int) < (nT : Int) := by omega
      clear hd
      cases hxm : x == m
      · have H1 := Lib.hid hxm
        go_wp2_with fail
        go_roundg (gk - 1)
        case measure => omega
        case rel => exact ⟨k + 1, by omega, by go_num, by rw [← HQ.out, coefT_miss HD.out H1.out], HB.out.alloc hbs _⟩
      · have H1 := Lib.hid hxm
        go_wp2_with fail
        go_ret
        exact ⟨ret_int (by rw [← HQ.out, coefT_hit HD.out H1.out]), HB.out.alloc hbs _⟩
    · have HE : Hid (0 = R) := Lib.hid (by rw [← HQ.out, List.drop_eq_nil_of_le (by have := HT.out.1; omega)]; rfl)
      go_wp2_with fail
      go_ret
      exact ⟨ret_int HE.out, HB.out⟩
set_option maxHeartbeats 1600000 in
theorem s_coef (N H : Int) (AT AO : Option Addr) (nT cT nO cO : Nat) (t : List (Int × Int)) (m : Int) (w : World) (hT : RdP w AT nT t) (b1 : nT ≤ 1099511627776) :
    Calls Try.prog 86 #[.agg #[.int .i64 N, .int .i64 H, .slice AT nT cT, .slice AO nO cO], .int .i64 m] w fun e w' => e = .returned (.int .i64 (coefT t m)) ∧ Below w.heap.size w w' := by
  have BZ := Lib.hid ((Below.refl w.heap.size w).alloc (Nat.le_refl _) (.cells #[.int .i64 N, .int .i64 H, .slice AT nT cT, .slice AO nO cO] 32))
  have HT := Lib.hid (hT.below BZ.out)
  clear hT
  have X0 := Lib.hid (Bx.new w 32 #[.int .i64 N, .int .i64 H, .slice AT nT cT, .slice AO nO cO])
  obtain ⟨R, hR⟩ : ∃ R, coefT t m = R := ⟨_, rfl⟩
  rw [hR]
  have HR := Lib.hid hR
  clear hR
  go_enter Try.func86, Try.ntmps86
  go_wp2_with fail
  generalize w.alloc (.cells #[.int .i64 N, .int .i64 H, .slice AT nT cT, .slice AO nO cO] 32) = wz at HT X0 BZ ⊢
  obtain ⟨p0, p1, p2, p3, _⟩ := X0.out.four
  go_loopg [5] nT (fun r j wr => ∃ k : Nat, k + r = nT ∧ j = .int .i64 k ∧ coefT (t.drop k) m = R ∧ wr = wz)
  case atStart => exact ⟨0, by omega, rfl, HR.out, rfl⟩
  case round =>
    obtain ⟨k, hk, rfl, hq, rfl⟩ := hrel
    have HQ := Lib.hid hq
    clear hq
    by_cases hlt : k < nT
    · obtain ⟨g, off, x, y, rfl, hBb, hd, c0, c1⟩ := HT.out.at_ hlt
      have HD := Lib.hid hd
      have hkI : (k : Int) < (nT : Int) := by omega
      clear hd
      cases hxm : x == m
      · have H1 := Lib.hid hxm
        go_wp2_with fail
        go_roundg (gk - 1)
        case measure => omega
        case rel => exact ⟨k + 1, by omega, by go_num, by rw [← HQ.out, coefT_miss HD.out H1.out], rfl⟩
      · have H1 := Lib.hid hxm
        go_wp2_with fail
        go_ret
        exact ⟨ret_int (by rw [← HQ.out, coefT_hit HD.out H1.out]), BZ.out⟩
    · have HE : Hid (0 = R) := Lib.hid (by rw [← HQ.out, List.drop_eq_nil_of_le (by have := HT.out.1; omega)]; rfl)
      go_wp2_with fail
      go_ret
      exact ⟨ret_int HE.out, BZ.out⟩
theorem own_new_ne {w : World} {base : Nat} {e : TypeId} {sz n : Nat} {v : Value} {xs : List Value} (h : w.ownsRow base e sz v n xs) : some w.heap.size ≠ v.ownBlock := fun he => by have := (h.lt _ he.symm).2; omega
theorem own_map_ne {w : World} {base : Nat} {e : TypeId} {sz n : Nat} {v : Value} {xs : List Value} {r : Nat} {es : Array MapEntry} {ck : Nat} (h : w.ownsRow base e sz v n xs) (hm : w.heap[r]? = some (.map es ck)) : some r ≠ v.ownBlock := by
  rcases h.2 with ⟨rfl, _⟩ | ⟨g', cap, cur, rfl, _, hh, _⟩
  · simp [Value.ownBlock]
  · intro he
    have : r = g' := by simpa [Value.ownBlock] using he
    subst this
    rw [hm] at hh
    cases hh
theorem bx_map_ne {w : World} {g t r : Nat} {cs : Array Value} {es : Array MapEntry} {ck : Nat} (h : Bx w g t cs) (hm : w.heap[r]? = some (.map es ck)) : g ≠ r := by
  rintro rfl
  unfold Bx at h
  rw [hm] at h
  cases h
theorem own_setObjI {w : World} {base : Nat} {e : TypeId} {sz n : Nat} {v : Value} {xs : List Value} {r : Nat} {es : Array MapEntry} {ck : Nat} (h : w.ownsRow base e sz v n xs) (hm : w.heap[r]? = some (.map es ck)) (o : Obj) : ({ w with heap := w.heap.setIfInBounds r o } : World).ownsRow base e sz v n xs := by
  have hne := own_map_ne h hm
  refine ⟨h.1, ?_⟩
  rcases h.2 with h0 | ⟨g, cap, cur, hv, h2, h3, h4⟩
  · exact .inl h0
  · refine .inr ⟨g, cap, cur, hv, h2, ?_, h4⟩
    show (w.heap.setIfInBounds r o)[g]? = _
    rw [Array.getElem?_setIfInBounds_ne (by intro e; subst e; exact hne (by rw [hv]; rfl))]
    exact h3
theorem map_grown {w w' : World} {r : Nat} {o : Obj} {row : Option Nat} (h : w.heap[r]? = some o) (hg : w.grownBy w' row) (hne : some r ≠ row) : w'.heap[r]? = some o := (hg.block r (Array.getElem?_eq_some_iff.1 h).1 hne).trans h
theorem map_set {w : World} {r : Nat} {o : Obj} (h : w.heap[r]? = some o) {p : Addr} (u : Value) (hne : r ≠ p.block) : (w.setCell p u).heap[r]? = some o := (Below.heap_setCell w p u r hne).trans h

def FI (g6 g10 : Nat) (M : Po) (AW : Option Addr) (cW : Nat) (BW : Option Addr) (dW : Nat) (w0 : World) (p : Po) (A2 : Option Addr) (c2 : Nat) (B2 : Option Addr) (d2 : Nat) (gm : Nat) (es : Array MapEntry) (ck : Nat) (met : List Int) (A : Option Addr) (c : Nat) (acc : List Gt) (wr : World) : Prop :=
  Bx wr g6 32 #[.int .i64 M.N, .int .i64 M.H, .slice AW M.t.length cW, .slice BW M.o.length dW] ∧ Bx wr g10 32 #[.int .i64 p.N, .int .i64 p.H, .slice A2 p.t.length c2, .slice B2 p.o.length d2] ∧
    wr.ownsRow w0.heap.size 36 2 (.slice AW M.t.length cW) M.t.length (cellsP M.t) ∧ wr.ownsRow w0.heap.size 36 2 (.slice A2 p.t.length c2) p.t.length (cellsP p.t) ∧ wr.ownsRow w0.heap.size 93 2 (.slice B2 p.o.length d2) p.o.length (cellsP p.o) ∧
    wr.ownsRow w0.heap.size 63 4 (.slice A acc.length c) acc.length (cellsG acc) ∧ (wr.heap[gm]? = some (.map es ck) ∧ EntsI es.toList met ∧ w0.heap.size ≤ gm) ∧ Below w0.heap.size w0 wr ∧ w0.heap.size ≤ g10 ∧ g6 ≠ g10
def FS (g6 g10 : Nat) (M : Po) (AW : Option Addr) (cW : Nat) (BW : Option Addr) (dW : Nat) (w0 : World) (p : Po) (A2 : Option Addr) (c2 : Nat) (B2 : Option Addr) (d2 : Nat) (AM : Option Addr) (cM : Nat) (met : List Int) (A : Option Addr) (c : Nat) (acc : List Gt) (wr : World) : Prop :=
  Bx wr g6 32 #[.int .i64 M.N, .int .i64 M.H, .slice AW M.t.length cW, .slice BW M.o.length dW] ∧ Bx wr g10 32 #[.int .i64 p.N, .int .i64 p.H, .slice A2 p.t.length c2, .slice B2 p.o.length d2] ∧
    wr.ownsRow w0.heap.size 36 2 (.slice AW M.t.length cW) M.t.length (cellsP M.t) ∧ wr.ownsRow w0.heap.size 36 2 (.slice A2 p.t.length c2) p.t.length (cellsP p.t) ∧ wr.ownsRow w0.heap.size 93 2 (.slice B2 p.o.length d2) p.o.length (cellsP p.o) ∧
    wr.ownsRow w0.heap.size 63 4 (.slice A acc.length c) acc.length (cellsG acc) ∧ wr.ownsRow w0.heap.size 3 1 (.slice AM met.length cM) met.length (cellsI met) ∧ Below w0.heap.size w0 wr ∧ w0.heap.size ≤ g10 ∧ g6 ≠ g10
section
variable {g6 g10 : Nat} {M : Po} {AW : Option Addr} {cW : Nat} {BW : Option Addr} {dW : Nat} {w0 : World} {p : Po} {A2 : Option Addr} {c2 : Nat} {B2 : Option Addr} {d2 : Nat} {gm : Nat} {es : Array MapEntry} {ck : Nat} {met : List Int} {A : Option Addr} {c : Nat} {acc : List Gt} {wr w' : World}
theorem FI.alloc (h : FI g6 g10 M AW cW BW dW w0 p A2 c2 B2 d2 gm es ck met A c acc wr) (o : Obj) : FI g6 g10 M AW cW BW dW w0 p A2 c2 B2 d2 gm es ck met A c acc (wr.alloc o) := by
  obtain ⟨x6, x10, tw, tp, op, ga, ⟨hm, he, hgm⟩, hb, h10, hne⟩ := h
  exact ⟨x6.alloc o, x10.alloc o, tw.alloc o, tp.alloc o, op.alloc o, ga.alloc o, ⟨map_allocI hm, he, hgm⟩, hb.alloc hb.size o, h10, hne⟩
theorem FI.below (h : FI g6 g10 M AW cW BW dW w0 p A2 c2 B2 d2 gm es ck met A c acc wr) (b : Below wr.heap.size wr w') : FI g6 g10 M AW cW BW dW w0 p A2 c2 B2 d2 gm es ck met A c acc w' := by
  obtain ⟨x6, x10, tw, tp, op, ga, ⟨hm, he, hgm⟩, hb, h10, hne⟩ := h
  exact ⟨x6.below b, x10.below b, ownsRow_below tw b, ownsRow_below tp b, ownsRow_below op b, ownsRow_below ga b, ⟨map_belowI hm b, he, hgm⟩, below_trans hb b, h10, hne⟩
theorem FI.app (h : FI g6 g10 M AW cW BW dW w0 p A2 c2 B2 d2 gm es ck met A c acc wr) {A' : Option Addr} {n' c' : Nat} {acc' : List Gt} (hg : wr.grownBy w' (Value.slice A acc.length c).ownBlock) (ho : w'.ownsRow w0.heap.size 63 4 (.slice A' n' c') n' (cellsG acc')) : FI g6 g10 M AW cW BW dW w0 p A2 c2 B2 d2 gm es ck met A' c' acc' w' := by
  obtain ⟨x6, x10, tw, tp, op, ga, ⟨hm, he, hgm⟩, hb, h10, hne⟩ := h
  have hn : n' = acc'.length := by have := ho.1; rw [length_cellsG] at this; omega
  subst hn
  exact ⟨kept_app ga hg x6 (by decide), kept_app ga hg x10 (by decide), tw.kept hg (own_types tw ga (by decide)), tp.kept hg (own_types tp ga (by decide)), op.kept hg (own_types op ga (by decide)), ho, ⟨map_grown hm hg (own_map_ne ga hm), he, hgm⟩, below_grown hb hb.size ga (Nat.le_refl _) hg, h10, hne⟩
theorem FI.poly (h : FI g6 g10 M AW cW BW dW w0 p A2 c2 B2 d2 gm es ck met A c acc wr) {b : Nat} {q : Po} {A6 : Option Addr} {c6 : Nat} {B6 : Option Addr} {d6 : Nat} (ht : wr.ownsRow b 36 2 (.slice A6 q.t.length c6) q.t.length (cellsP q.t)) (ho : wr.ownsRow b 93 2 (.slice B6 q.o.length d6) q.o.length (cellsP q.o)) (hbb : w0.heap.size ≤ b) : FI g6 g10 M AW cW BW dW w0 q A6 c6 B6 d6 gm es ck met A c acc ((((wr.setCell ⟨g10, 0, none⟩ (.int .i64 q.N)).setCell ⟨g10, 1, none⟩ (.int .i64 q.H)).setCell ⟨g10, 2, none⟩ (.slice A6 q.t.length c6)).setCell ⟨g10, 3, none⟩ (.slice B6 q.o.length d6)) := by
  obtain ⟨x6, x10, tw, tp, op, ga, ⟨hm, he, hgm⟩, hb, h10, hne⟩ := h
  exact ⟨set4K x6 hne, (((x10.s0 _).s1 _).s2 _).s3 _, own_set_ne4 tw (own_bx_ne tw x10 (by decide)), own_set_ne4 (ownsRow_base ht hbb) (own_bx_ne ht x10 (by decide)), own_set_ne4 (ownsRow_base ho hbb) (own_bx_ne ho x10 (by decide)), own_set_ne4 ga (own_bx_ne ga x10 (by decide)), ⟨map_set (map_set (map_set (map_set hm _ (bx_map_ne x10 hm).symm) _ (bx_map_ne x10 hm).symm) _ (bx_map_ne x10 hm).symm) _ (bx_map_ne x10 hm).symm, he, hgm⟩, below_set4 hb h10, h10, hne⟩
theorem FI.upd (h : FI g6 g10 M AW cW BW dW w0 p A2 c2 B2 d2 gm es ck met A c acc wr) (x : Int) : FI g6 g10 M AW cW BW dW w0 p A2 c2 B2 d2 gm (es.push { key := .int .i64 x, val := .bool true, born := ck }) (ck + 1) (met ++ [x]) A c acc { wr with heap := wr.heap.setIfInBounds gm (.map (es.push { key := .int .i64 x, val := .bool true, born := ck }) (ck + 1)) } := by
  obtain ⟨x6, x10, tw, tp, op, ga, ⟨hm, he, hgm⟩, hb, h10, hne⟩ := h
  exact ⟨x6.setObjI (bx_map_ne x6 hm) _, x10.setObjI (bx_map_ne x10 hm) _, own_setObjI tw hm _, own_setObjI tp hm _, own_setObjI op hm _, own_setObjI ga hm _, ⟨map_setObjI hm, he.push x ck, hgm⟩, below_setObjI hb hgm _, h10, hne⟩
end
section
variable {g6 g10 : Nat} {M : Po} {AW : Option Addr} {cW : Nat} {BW : Option Addr} {dW : Nat} {w0 : World} {p : Po} {A2 : Option Addr} {c2 : Nat} {B2 : Option Addr} {d2 : Nat} {AM : Option Addr} {cM : Nat} {met : List Int} {A : Option Addr} {c : Nat} {acc : List Gt} {wr w' : World}
theorem FS.alloc (h : FS g6 g10 M AW cW BW dW w0 p A2 c2 B2 d2 AM cM met A c acc wr) (o : Obj) : FS g6 g10 M AW cW BW dW w0 p A2 c2 B2 d2 AM cM met A c acc (wr.alloc o) := by
  obtain ⟨x6, x10, tw, tp, op, ga, hm, hb, h10, hne⟩ := h
  exact ⟨x6.alloc o, x10.alloc o, tw.alloc o, tp.alloc o, op.alloc o, ga.alloc o, hm.alloc o, hb.alloc hb.size o, h10, hne⟩
theorem FS.below (h : FS g6 g10 M AW cW BW dW w0 p A2 c2 B2 d2 AM cM met A c acc wr) (b : Below wr.heap.size wr w') : FS g6 g10 M AW cW BW dW w0 p A2 c2 B2 d2 AM cM met A c acc w' := by
  obtain ⟨x6, x10, tw, tp, op, ga, hm, hb, h10, hne⟩ := h
  exact ⟨x6.below b, x10.below b, ownsRow_below tw b, ownsRow_below tp b, ownsRow_below op b, ownsRow_below ga b, ownsRow_below hm b, below_trans hb b, h10, hne⟩
theorem FS.app (h : FS g6 g10 M AW cW BW dW w0 p A2 c2 B2 d2 AM cM met A c acc wr) {A' : Option Addr} {n' c' : Nat} {acc' : List Gt} (hg : wr.grownBy w' (Value.slice A acc.length c).ownBlock) (ho : w'.ownsRow w0.heap.size 63 4 (.slice A' n' c') n' (cellsG acc')) : FS g6 g10 M AW cW BW dW w0 p A2 c2 B2 d2 AM cM met A' c' acc' w' := by
  obtain ⟨x6, x10, tw, tp, op, ga, hm, hb, h10, hne⟩ := h
  have hn : n' = acc'.length := by have := ho.1; rw [length_cellsG] at this; omega
  subst hn
  exact ⟨kept_app ga hg x6 (by decide), kept_app ga hg x10 (by decide), tw.kept hg (own_types tw ga (by decide)), tp.kept hg (own_types tp ga (by decide)), op.kept hg (own_types op ga (by decide)), ho, hm.kept hg (own_types hm ga (by decide)), below_grown hb hb.size ga (Nat.le_refl _) hg, h10, hne⟩
theorem FS.poly (h : FS g6 g10 M AW cW BW dW w0 p A2 c2 B2 d2 AM cM met A c acc wr) {b : Nat} {q : Po} {A6 : Option Addr} {c6 : Nat} {B6 : Option Addr} {d6 : Nat} (ht : wr.ownsRow b 36 2 (.slice A6 q.t.length c6) q.t.length (cellsP q.t)) (ho : wr.ownsRow b 93 2 (.slice B6 q.o.length d6) q.o.length (cellsP q.o)) (hbb : w0.heap.size ≤ b) : FS g6 g10 M AW cW BW dW w0 q A6 c6 B6 d6 AM cM met A c acc ((((wr.setCell ⟨g10, 0, none⟩ (.int .i64 q.N)).setCell ⟨g10, 1, none⟩ (.int .i64 q.H)).setCell ⟨g10, 2, none⟩ (.slice A6 q.t.length c6)).setCell ⟨g10, 3, none⟩ (.slice B6 q.o.length d6)) := by
  obtain ⟨x6, x10, tw, tp, op, ga, hm, hb, h10, hne⟩ := h
  exact ⟨set4K x6 hne, (((x10.s0 _).s1 _).s2 _).s3 _, own_set_ne4 tw (own_bx_ne tw x10 (by decide)), own_set_ne4 (ownsRow_base ht hbb) (own_bx_ne ht x10 (by decide)), own_set_ne4 (ownsRow_base ho hbb) (own_bx_ne ho x10 (by decide)), own_set_ne4 ga (own_bx_ne ga x10 (by decide)), own_set_ne4 hm (own_bx_ne hm x10 (by decide)), below_set4 hb h10, h10, hne⟩
theorem FS.metApp (h : FS g6 g10 M AW cW BW dW w0 p A2 c2 B2 d2 AM cM met A c acc wr) {A' : Option Addr} {n' c' : Nat} {met' : List Int} (hg : wr.grownBy w' (Value.slice AM met.length cM).ownBlock) (ho : w'.ownsRow w0.heap.size 3 1 (.slice A' n' c') n' (cellsI met')) : FS g6 g10 M AW cW BW dW w0 p A2 c2 B2 d2 A' c' met' A c acc w' := by
  obtain ⟨x6, x10, tw, tp, op, ga, hm, hb, h10, hne⟩ := h
  have hn : n' = met'.length := by have := ho.1; rw [length_cellsI] at this; omega
  subst hn
  exact ⟨kept_app hm hg x6 (by decide), kept_app hm hg x10 (by decide), tw.kept hg (own_types tw hm (by decide)), tp.kept hg (own_types tp hm (by decide)), op.kept hg (own_types op hm (by decide)), ga.kept hg (own_types ga hm (by decide)), ho, below_grown hb hb.size hm (Nat.le_refl _) hg, h10, hne⟩
end
end Go.Proofs.YtgnallcfahpjmaaR
