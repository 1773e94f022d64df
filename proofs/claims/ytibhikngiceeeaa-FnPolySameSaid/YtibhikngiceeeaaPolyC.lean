/- Polynomials in memory: rows of the call's own, blocks that hold a polynomial; contracts of copyPolynomial, l32Copy and IdentityPhasePolynomial. At most 2^40 terms and outputs. -/
import Derived.Test.YtibhikngiceeeaaPoly
import Derived.Test.YtibhikngiceeeaaPolyP
import Derived.Test.YtibhikngiceeeaaReads
import Derived.Deep.RegionHeld3
import Derived.StillTailTactics
namespace Go.Proofs.Ytibhikngiceeeaa
open Go.RowKit

theorem own0_bx {W : World} {g base : Nat} {e : TypeId} {sz : Nat} (hb : base ≤ g) (h : Bx W g e #[]) : W.ownsRow base e sz (.slice (some ⟨g, 0, none⟩) 0 0) 0 [] :=
  ⟨by simp, .inr ⟨g, 0, #[], rfl, hb, h, Nat.le_refl _, by simp, by simp, by simp⟩⟩
section
variable {P : Program} {w : World}
/-- append onto an empty row without room: nothing that stood is touched. -/
theorem run_mk0 (base : Nat) (t ty e : TypeId) {z : Value} {size bytes : Nat} (ht : P.underlying t = some (.slice e)) (hinfo : (P.info? e).map (fun i => (i.zero, i.size, i.bytes)) = some (some z, size, bytes))
    (hzs : z.cells.size = size) (g : Nat) (hbx : Bx w g e #[]) (hbase : base ≤ g)
    (A' : Option Addr) (m c' : Nat) (news : List Value) (hr : Rd w size A' m news) (hbytes : m * bytes ≤ 140737488355328) (hby : 0 < bytes) :
    ∃ A'' c'' w', (Builtin.append_ #[t, t] ty #[.slice (some ⟨g, 0, none⟩) 0 0, .slice A' m c']).run P w = .ok (.slice A'' m c'') w' ∧ w'.ownsRow base e size (.slice A'' m c'') m news ∧ Below w.heap.size w w' := by
  obtain ⟨i, hi, hz, hs, hb⟩ := info_parts hinfo
  subst hs hb
  have hm63 : m ≤ 140737488355328 := Nat.le_trans (Nat.le_mul_of_pos_right m hby) hbytes
  have hlt := hbx.lt
  by_cases hm : m = 0
  · subst hm
    have hn : news = [] := List.eq_nil_of_length_eq_zero (by simpa using hr.1)
    subst hn
    refine ⟨some ⟨g, 0, none⟩, 0, w, ?_, own0_bx hbase hbx, Below.refl _ _⟩
    cases A' with
    | none => simp [Builtin.append_, run_underlying ht, sizeOf, typeInfo, hi, Builtin.lenOf, Builtin.firstCells, storeCells]
    | some ad => simp [Builtin.append_, run_underlying ht, sizeOf, typeInfo, hi, Builtin.lenOf, Builtin.firstCells, storeCells, loadCells, loadCellsFrom]
  · obtain ⟨b, off, hA, hbl, hc⟩ := hr.2 (by omega)
    subst hA
    have hnews : ∀ j u, news[j]? = some u → w.cell? ((⟨b, off, none⟩ : Addr).add j) = some u := by
      intro j u hu
      have := hc j u hu
      unfold Addr.add
      split
      · subst j; simpa using this
      · exact this
    have hfit := growslice_fits (need := 0 + m) (old := 0) (bytes := i.bytes) (by omega) (by simpa using hbytes)
    have hrun := run_append_grow (P := P) w t ty e i z ht hi hz ⟨g, 0, none⟩ 0 0 [] (by simp) (fun j u h => by simp at h) ⟨b, off, none⟩ m c' news hr.1 hnews (by omega) (by omega) hfit
    have hge := grownCap_ge w (0 + m) 0 e
    have hcm : grownCap w (0 + m) 0 e ≤ maxLen := grownCap_le_maxLen w (0 + m) 0 e (by simp only [maxLen]; omega)
    rw [Nat.zero_add] at hrun hge hcm
    refine ⟨_, _, _, hrun, ⟨hr.1, .inr ⟨w.heap.size, _, _, rfl, by omega, heap_alloc_new w.drew _, hge, hcm, ?_, ?_⟩⟩, ((Below.refl _ _).drew.alloc (Nat.le_refl _) _)⟩
    · simp only [Array.size_append, List.size_toArray, size_zeroCells, hzs, List.length_nil, Nat.zero_add, hr.1, ← Nat.add_mul]
      congr 1
      omega
    · simp only [Array.toList_append, List.nil_append]
      rw [← hr.1]
      exact List.take_left
theorem step_mk0 {ops : Array Oper} {o : Oper} {a : Act} {K : Act → World → Prop} {Q : Exit → Act → World → Prop} {E : Prop} (hgd : o.guard = none) (s x : Operand) (t : TypeId)
    (ho : o.op = .call { callee := .builtin .append, args := #[s, x], argTypes := #[t, t] })
    {base e : Nat} {z : Value} {size bytes : Nat} (ht : P.underlying t = some (.slice e)) (hinfo : (P.info? e).map (fun i => (i.zero, i.size, i.bytes)) = some (some z, size, bytes))
    (hzs : z.cells.size = size) {g : Nat} (hs : a.eval s = .slice (some ⟨g, 0, none⟩) 0 0) (hbx : Bx w g e #[]) (hbase : base ≤ g)
    {A' : Option Addr} {m c' : Nat} {news : List Value} (hx : a.eval x = .slice A' m c') (hr : Rd w size A' m news)
    (hbytes : m * bytes ≤ 140737488355328) (hby : 0 < bytes)
    (h : ∀ A'' c'' w', w'.ownsRow base e size (.slice A'' m c'') m news → Below w.heap.size w w' → K (a.put o.dst (.slice A'' m c'')) w') :
    if Region.wanted o (yielded ops a.tmps) = true then Oper.wp P o a w K Q else E := by
  have hw : Region.wanted o (yielded ops a.tmps) = true := by simp [Region.wanted, hgd]
  rw [if_pos hw]
  obtain ⟨A'', c'', w', hrun, h2, h3⟩ := run_mk0 (P := P) base t o.type e ht hinfo hzs g hbx hbase A' m c' news hr hbytes hby
  unfold Oper.wp execOp
  simp only [ho, resolve, invoke, builtin, Sem.run_bind, Sem.run_pure, Result.andThen_ok, List.map_toArray, List.map_cons, List.map_nil, hs, hx, hrun]
  exact h A'' c'' w' h2 h3
end
theorem keepA {a W : World} {o : Obj} (h : Below a.heap.size a W) : Below a.heap.size a (W.alloc o).drew := (h.alloc h.size o).drew
theorem keepB {a W : World} {o : Obj} (h : Below a.heap.size a W.drew) : Below a.heap.size a (W.alloc o).drew := ((show Below a.heap.size a W from ⟨h.os, h.tape, h.output, h.size, h.block⟩).alloc h.size o).drew
theorem bx_n {W : World} {i : Nat} {t : TypeId} {cs : Array Value} (h : i = W.heap.size) : Bx (W.alloc (.cells cs t)).drew i t cs := (Bx.new' h).drew
theorem bx_o {W : World} {o : Obj} {i : Nat} {t : TypeId} {cs : Array Value} (h : Bx W i t cs) : Bx (W.alloc o).drew i t cs := (h.alloc o).drew
theorem bx_m {W : World} {o : Obj} {i : Nat} {t : TypeId} {cs : Array Value} (h : Bx W.drew i t cs) : Bx (W.alloc o).drew i t cs := bx_o (o := o) (show Bx W i t cs from h)
theorem keepC {a W : World} {o : Obj} (h : Below a.heap.size a W) : Below a.heap.size a (W.alloc o) := h.alloc h.size o
theorem k4K {w' : World} {g t : Nat} {a b c d : Value} (h : Bx w' g t #[a, b, c, d]) :
    w'.cell? ⟨g, 0, none⟩ = some a ∧ w'.cell? ⟨g, 1, none⟩ = some b ∧ w'.cell? ⟨g, 2, none⟩ = some c ∧ w'.cell? ⟨g, 3, none⟩ = some d ∧ True := by
  obtain ⟨p0, p1, p2, p3, _⟩ := h.four
  exact ⟨p0, p1, p2, p3, trivial⟩
theorem set4K {w' : World} {g t g1 : Nat} {cs : Array Value} {a b c d : Value} (h : Bx w' g t cs) (hne : g ≠ g1) : Bx ((((w'.setCell ⟨g1, 0, none⟩ a).setCell ⟨g1, 1, none⟩ b).setCell ⟨g1, 2, none⟩ c).setCell ⟨g1, 3, none⟩ d) g t cs :=
  (((h.far hne _).far hne _).far hne _).far hne _
theorem Bx.s0 {w : World} {g t : Nat} {a b c d : Value} (h : Bx w g t #[a, b, c, d]) (x : Value) : Bx (w.setCell ⟨g, 0, none⟩ x) g t #[x, b, c, d] := by simpa using h.set_ 0 x
theorem Bx.s1 {w : World} {g t : Nat} {a b c d : Value} (h : Bx w g t #[a, b, c, d]) (x : Value) : Bx (w.setCell ⟨g, 1, none⟩ x) g t #[a, x, c, d] := by simpa using h.set_ 1 x
theorem Bx.s2 {w : World} {g t : Nat} {a b c d : Value} (h : Bx w g t #[a, b, c, d]) (x : Value) : Bx (w.setCell ⟨g, 2, none⟩ x) g t #[a, b, x, d] := by simpa using h.set_ 2 x
theorem Bx.s3 {w : World} {g t : Nat} {a b c d : Value} (h : Bx w g t #[a, b, c, d]) (x : Value) : Bx (w.setCell ⟨g, 3, none⟩ x) g t #[a, b, c, x] := by simpa using h.set_ 3 x
theorem below_sa {B : Nat} {w w' : World} {p : Addr} {u : Value} {o : Obj} (h : Below B w w') (hp : B ≤ p.block) (hB : B ≤ w'.heap.size) : Below B w ((w'.setCell p u).alloc o) :=
  (h.setCell hp _).alloc (by simpa [World.setCell] using hB) _
theorem own_set4 {w' : World} {base g1 : Nat} {e : TypeId} {sz n : Nat} {v : Value} {xs : List Value} {a b c d : Value} (h : w'.ownsRow base e sz v n xs) (hg : g1 < base) : ((((w'.setCell ⟨g1, 0, none⟩ a).setCell ⟨g1, 1, none⟩ b).setCell ⟨g1, 2, none⟩ c).setCell ⟨g1, 3, none⟩ d).ownsRow base e sz v n xs :=
  own_set (own_set (own_set (own_set h (p := ⟨g1, 0, none⟩) hg a) (p := ⟨g1, 1, none⟩) hg b) (p := ⟨g1, 2, none⟩) hg c) (p := ⟨g1, 3, none⟩) hg d
theorem below_set4 {w w' : World} {B g1 : Nat} {a b c d : Value} (h : Below B w w') (hg : B ≤ g1) : Below B w ((((w'.setCell ⟨g1, 0, none⟩ a).setCell ⟨g1, 1, none⟩ b).setCell ⟨g1, 2, none⟩ c).setCell ⟨g1, 3, none⟩ d) :=
  (((h.setCell hg _).setCell hg _).setCell hg _).setCell hg _
theorem wpList_mk0 {P : Program} {w : World} {ops : Array Oper} {rest : List Oper} {o : Oper} {a : Act} {Q : Exit → Act → World → Prop} (hgd : o.guard = none) (s x : Operand) (t : TypeId)
    (ho : o.op = .call { callee := .builtin .append, args := #[s, x], argTypes := #[t, t] })
    {base e : Nat} {z : Value} {size bytes : Nat} (ht : P.underlying t = some (.slice e)) (hinfo : (P.info? e).map (fun i => (i.zero, i.size, i.bytes)) = some (some z, size, bytes))
    (hzs : z.cells.size = size) {g : Nat} (hs : a.eval s = .slice (some ⟨g, 0, none⟩) 0 0) (hbx : Bx w g e #[]) (hbase : base ≤ g)
    {A' : Option Addr} {m c' : Nat} {news : List Value} (hx : a.eval x = .slice A' m c') (hr : Rd w size A' m news)
    (hbytes : m * bytes ≤ 140737488355328) (hby : 0 < bytes)
    (h : ∀ A'' c'' w', w'.ownsRow base e size (.slice A'' m c'') m news → Below w.heap.size w w' → wpList P ops Q rest (a.put o.dst (.slice A'' m c'')) w') : wpList P ops Q (o :: rest) a w :=
  wpList_plain hgd fun K hK => by
    obtain ⟨A'', c'', w', hrun, h2, h3⟩ := run_mk0 (P := P) base t o.type e ht hinfo hzs g hbx hbase A' m c' news hr hbytes hby
    unfold Oper.wp execOp
    simp only [ho, resolve, invoke, builtin, Sem.run_bind, Sem.run_pure, Result.andThen_ok, List.map_toArray, List.map_cons, List.map_nil, hs, hx, hrun]
    exact hK _ _ (h A'' c'' w' h2 h3)
theorem OwnPoly.base {wx : World} {base base' : Nat} {N H : Int} {t o : List (Int × Int)} {v : Value} (h : OwnPoly wx base N H t o v) (hb : base' ≤ base) : OwnPoly wx base' N H t o v := by
  obtain ⟨AT, cT, AO, cO, e, h1, h2⟩ := h
  exact ⟨AT, cT, AO, cO, e, ownsRow_base h1 hb, ownsRow_base h2 hb⟩
theorem OwnPoly.below {wx w' : World} {base : Nat} {N H : Int} {t o : List (Int × Int)} {v : Value} (h : OwnPoly wx base N H t o v) (hb : Below wx.heap.size wx w') : OwnPoly w' base N H t o v := by
  obtain ⟨AT, cT, AO, cO, e, h1, h2⟩ := h
  exact ⟨AT, cT, AO, cO, e, ownsRow_below h1 hb, ownsRow_below h2 hb⟩

set_option maxRecDepth 100000 in
set_option maxHeartbeats 1600000 in
theorem i_copyPoly (N H : Int) (AT : Option Addr) (nT cT : Nat) (t : List (Int × Int)) (AO : Option Addr) (nO cO : Nat) (o : List (Int × Int)) (w : World) (hT : RdP w AT nT t) (hO : RdP w AO nO o) (hnT : nT ≤ 1099511627776) (hnO : nO ≤ 1099511627776) :
    Calls Try.prog 113 #[.agg #[.int .i64 N, .int .i64 H, .slice AT nT cT, .slice AO nO cO]] w (RetPoly N H t o w) := by
  have HT := Lib.hid hT
  have HO := Lib.hid hO
  have hz2 : (Value.agg #[.int .i64 0, .int .i64 0]).cells.size = 2 := rfl
  clear hT hO
  go_enter Try.func113, Try.ntmps113
  go_wp2_with fail
  have X0 := Lib.hid (show Bx ((w.alloc (.cells #[.int .i64 N, .int .i64 H, .slice AT nT cT, .slice AO nO cO] 32)).alloc (.cells #[.int .i64 0, .int .i64 0, .slice none 0 0, .slice none 0 0] 32)) w.heap.size 32 _ from (Bx.new w _ _).alloc _)
  have X1 := Lib.hid (show Bx ((w.alloc (.cells #[.int .i64 N, .int .i64 H, .slice AT nT cT, .slice AO nO cO] 32)).alloc (.cells #[.int .i64 0, .int .i64 0, .slice none 0 0, .slice none 0 0] 32)) (w.heap.size + 1) 32 _ from Bx.new' (by simp))
  have RT := Lib.hid ((HT.out.2.alloc (.cells #[.int .i64 N, .int .i64 H, .slice AT nT cT, .slice AO nO cO] 32)).alloc (.cells #[.int .i64 0, .int .i64 0, .slice none 0 0, .slice none 0 0] 32))
  have RO := Lib.hid ((HO.out.2.alloc (.cells #[.int .i64 N, .int .i64 H, .slice AT nT cT, .slice AO nO cO] 32)).alloc (.cells #[.int .i64 0, .int .i64 0, .slice none 0 0, .slice none 0 0] 32))
  have BZ : Hid (Below w.heap.size w ((w.alloc (.cells #[.int .i64 N, .int .i64 H, .slice AT nT cT, .slice AO nO cO] 32)).alloc (.cells #[.int .i64 0, .int .i64 0, .slice none 0 0, .slice none 0 0] 32))) := Lib.hid (((Below.refl _ _).alloc (Nat.le_refl _) _).alloc (by simp) _)
  generalize (w.alloc (.cells #[.int .i64 N, .int .i64 H, .slice AT nT cT, .slice AO nO cO] 32)).alloc (.cells #[.int .i64 0, .int .i64 0, .slice none 0 0, .slice none 0 0] 32) = wz at X0 X1 RT RO BZ ⊢
  generalize hg1 : w.heap.size + 1 = g1 at X1 ⊢
  generalize hg0 : w.heap.size = g0 at X0 hg1 ⊢
  have hne : g0 ≠ g1 := by omega
  have hg1w : g1 < wz.heap.size := X1.out.lt
  have hbw : w.heap.size ≤ wz.heap.size := BZ.out.size
  have hgg : w.heap.size ≤ g1 := by omega
  go_region_held3 (fun w' => w'.cell? ⟨g0, 0, none⟩ = some (.int .i64 N) ∧ w'.cell? ⟨g0, 1, none⟩ = some (.int .i64 H) ∧ w'.cell? ⟨g0, 2, none⟩ = some (.slice AT nT cT) ∧ w'.cell? ⟨g0, 3, none⟩ = some (.slice AO nO cO) ∧ True)
    (first
      | with_reducible exact k4K ((X0.out.below z3).alloc _)
      | with_reducible exact k4K ((X0.out.below z4).alloc _)
      | with_reducible exact k4K (X0.out.below z3)
      | with_reducible exact k4K (X0.out.below z4)
      | with_reducible exact k4K X0.out.drew
      | with_reducible exact k4K (X0.out.alloc _).drew
      | with_reducible exact k4K ((X0.out.alloc _).alloc _).drew
      | with_reducible exact k4K (set4K (X0.out.below z3) hne)
      | with_reducible exact k4K (set4K (X0.out.below z4) hne))
    (first
      | (refine step_mk0 (by rfl) (.tmp 7) (.tmp 9) 29 (by rfl) Try.underlying29 infoPhaseTerm hz2 (base := wz.heap.size) (news := cellsP t) rfl ?_ ?_ rfl ?_ (by omega) (by decide) ?_; (first | with_reducible exact bx_n (by simp) | with_reducible exact Bx.new' (by simp) | with_reducible exact bx_o (Bx.new' (by simp)) | with_reducible exact Bx.below (bx_n (by simp)) b4 | with_reducible exact Bx.below (bx_o (Bx.new' (by simp))) b4); (first | exact Nat.le_refl _ | exact Nat.le_succ _ | exact z4.size); (first | with_reducible exact RT.out.below z4 | with_reducible exact RT.out.below (keepC z4) | with_reducible exact Rd.drew (RT.out.alloc _) | with_reducible exact Rd.drew ((RT.out.alloc _).alloc _)); intro A3 c3 w3 o3 b3; (first | (with_reducible have z3 := below_trans (keepA (Below.refl _ wz)) b3) | (with_reducible have z3 := below_trans (keepA (keepC (Below.refl _ wz))) b3) | (with_reducible have z3 := below_trans (keepC z4) b3) | (with_reducible have z3 := below_trans z4 b3)); (first | (with_reducible have p4 := ownsRow_below o4 b3) | (with_reducible have p4 := ownsRow_below (World.ownsRow.alloc o4 _) b3) | skip); have ⟨q0, q1, q2, q3, f0, f1, f2, f3⟩ := (X1.out.below z3).four)
      | (refine step_mk0 (by rfl) (.tmp 11) (.tmp 13) 30 (by rfl) Try.underlying30 infoAffineForm hz2 (base := wz.heap.size) (news := cellsP o) rfl ?_ ?_ rfl ?_ (by omega) (by decide) ?_; (first | with_reducible exact bx_n (by simp) | with_reducible exact Bx.new' (by simp) | with_reducible exact bx_o (Bx.new' (by simp)) | with_reducible exact Bx.below (bx_n (by simp)) b3 | with_reducible exact Bx.below (bx_o (Bx.new' (by simp))) b3); (first | exact Nat.le_refl _ | exact Nat.le_succ _ | exact z3.size); (first | with_reducible exact RO.out.below z3 | with_reducible exact RO.out.below (keepC z3) | with_reducible exact Rd.drew (RO.out.alloc _) | with_reducible exact Rd.drew ((RO.out.alloc _).alloc _)); intro A4 c4 w4 o4 b4; (first | (with_reducible have z4 := below_trans (keepA (Below.refl _ wz)) b4) | (with_reducible have z4 := below_trans (keepA (keepC (Below.refl _ wz))) b4) | (with_reducible have z4 := below_trans (keepC z3) b4) | (with_reducible have z4 := below_trans z3 b4)); (first | (with_reducible have p3 := ownsRow_below o3 b4) | (with_reducible have p3 := ownsRow_below (World.ownsRow.alloc o3 _) b4) | skip); have ⟨q0, q1, q2, q3, f0, f1, f2, f3⟩ := (X1.out.below z4).four)
      | fail)
  all_goals
    go_wp2_with fail
    refine bodyPost_ret (v := .agg #[.int .i64 N, .int .i64 H, .slice A3 nT c3, .slice A4 nO c4]) (by simp [results, Try.results113, go_sem, q0, q1, q2, q3]) rfl ⟨_, rfl, ⟨A3, c3, A4, c4, by rw [HT.out.1, HO.out.1], ?_, ?_⟩, ?_⟩
    · rw [HT.out.1]
      first | exact ownsRow_base (own_set4 o3 hg1w) hbw | exact ownsRow_base (own_set4 p3 hg1w) hbw
    · rw [HO.out.1]
      first | exact ownsRow_base (own_set4 o4 hg1w) hbw | exact ownsRow_base (own_set4 p4 hg1w) hbw
    · first | exact below_set4 (below_trans BZ.out z3) hgg | exact below_set4 (below_trans BZ.out z4) hgg
set_option maxRecDepth 100000 in
set_option maxHeartbeats 1600000 in
theorem s_l32Copy (N H : Int) (AT : Option Addr) (nT cT : Nat) (t : List (Int × Int)) (AO : Option Addr) (nO cO : Nat) (o : List (Int × Int)) (w : World) (hT : RdP w AT nT t) (hO : RdP w AO nO o) (hnT : nT ≤ 1099511627776) (hnO : nO ≤ 1099511627776) :
    Calls Try.prog 116 #[.agg #[.int .i64 N, .int .i64 H, .slice AT nT cT, .slice AO nO cO]] w (RetPoly N H t o w) := by
  have HT := Lib.hid hT
  have HO := Lib.hid hO
  have hz2 : (Value.agg #[.int .i64 0, .int .i64 0]).cells.size = 2 := rfl
  clear hT hO
  have X0 := Lib.hid (show Bx ((w.alloc (.cells #[.int .i64 N, .int .i64 H, .slice AT nT cT, .slice AO nO cO] 32)).alloc (.cells #[.int .i64 0, .int .i64 0, .slice none 0 0, .slice none 0 0] 32)) w.heap.size 32 _ from (Bx.new w _ _).alloc _)
  have X1 := Lib.hid (show Bx ((w.alloc (.cells #[.int .i64 N, .int .i64 H, .slice AT nT cT, .slice AO nO cO] 32)).alloc (.cells #[.int .i64 0, .int .i64 0, .slice none 0 0, .slice none 0 0] 32)) (w.heap.size + 1) 32 _ from Bx.new' (by simp))
  have RT := Lib.hid ((HT.out.2.alloc (.cells #[.int .i64 N, .int .i64 H, .slice AT nT cT, .slice AO nO cO] 32)).alloc (.cells #[.int .i64 0, .int .i64 0, .slice none 0 0, .slice none 0 0] 32))
  have RO := Lib.hid ((HO.out.2.alloc (.cells #[.int .i64 N, .int .i64 H, .slice AT nT cT, .slice AO nO cO] 32)).alloc (.cells #[.int .i64 0, .int .i64 0, .slice none 0 0, .slice none 0 0] 32))
  have BZ : Hid (Below w.heap.size w ((w.alloc (.cells #[.int .i64 N, .int .i64 H, .slice AT nT cT, .slice AO nO cO] 32)).alloc (.cells #[.int .i64 0, .int .i64 0, .slice none 0 0, .slice none 0 0] 32))) := Lib.hid (((Below.refl _ _).alloc (Nat.le_refl _) _).alloc (by simp) _)
  go_enter Try.func116, Try.ntmps116
  go_wp2_with (first
    | (at_builtin; refine wpList_mk0 rfl (.tmp 3) (.tmp 5) 29 rfl Try.underlying29 infoPhaseTerm hz2 (base := w.heap.size + 1 + 1) rfl (Bx.new' (by simp)) (Nat.le_refl _) rfl (RT.out.alloc _) (by omega) (by decide) ?_; intro A3 c3 w3 o3 b3; have Y0 := Lib.hid ((X0.out.alloc _).below b3); have Y1 := Lib.hid ((X1.out.alloc _).below b3); have BY := Lib.hid (below_trans (BZ.out.alloc BZ.out.size _) b3); have ⟨p0, p1, p2, p3, f0, f1, f2, f3⟩ := Y0.out.four; have hs3 := Y1.out.lt; have hs0 := Y0.out.lt)
    | (at_builtin; refine wpList_mk0 rfl (.tmp 8) (.tmp 10) 30 rfl Try.underlying30 infoAffineForm hz2 (base := w.heap.size + 1 + 1) rfl (Bx.new' (by simp)) ?_ rfl (HO.out.2.below (below_sa BY.out (p := ⟨w.heap.size, 2, none⟩) (Nat.le_refl _) BY.out.size)) (by omega) (by decide) ?_; omega; intro A4 c4 w4 o4 b4; have V0 := Lib.hid (((Y0.out.s2 (.slice A3 nT c3)).alloc _).below b4); have V1 := Lib.hid (((Y1.out.far (p := ⟨w.heap.size, 2, none⟩) (by simp) (.slice A3 nT c3)).alloc _).below b4); clear p0 p1 p2 p3 f0 f1 f2 f3; have ⟨p0, p1, p2, p3, f0, f1, f2, f3⟩ := V0.out.four; have ⟨q0, q1, q2, q3, y0, y1, y2, y3⟩ := V1.out.four))
  have P3 := ownsRow_below (World.ownsRow.alloc (own_set o3 (p := ⟨w.heap.size, 2, none⟩) (by show w.heap.size < w.heap.size + 1 + 1; omega) (.slice A3 nT c3)) (.cells #[] 109)) b4
  refine bodyPost_ret (v := .agg #[.int .i64 N, .int .i64 H, .slice A3 nT c3, .slice A4 nO c4]) (by simp [results, Try.results116, go_sem, q0, q1, q2, q3]) rfl ⟨_, rfl, ⟨A3, c3, A4, c4, by rw [HT.out.1, HO.out.1], ?_, ?_⟩, ?_⟩
  · rw [HT.out.1]
    exact ownsRow_base (own_set4 (own_set P3 (p := ⟨w.heap.size, 3, none⟩) (by show w.heap.size < w.heap.size + 1 + 1; omega) _) (by omega)) (by omega)
  · rw [HO.out.1]
    exact ownsRow_base (own_set4 (own_set o4 (p := ⟨w.heap.size, 3, none⟩) (by show w.heap.size < w.heap.size + 1 + 1; omega) _) (by omega)) (by omega)
  · exact below_set4 ((below_trans (below_sa BY.out (p := ⟨w.heap.size, 2, none⟩) (Nat.le_refl _) BY.out.size) b4).setCell (Nat.le_refl _) _) (by omega)

end Go.Proofs.Ytibhikngiceeeaa
