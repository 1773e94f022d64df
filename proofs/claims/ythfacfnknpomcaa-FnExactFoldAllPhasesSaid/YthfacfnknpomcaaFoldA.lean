/- Contracts of FoldAllPhases (impl, spec). At most 2^20 gates. -/
import Derived.Test.YthfacfnknpomcaaFoldI
import Derived.Test.YthfacfnknpomcaaFoldS
import Derived.Test.YthfacfnknpomcaaSecS
namespace Go.Proofs.Ythfacfnknpomcaa
open Go.RowKit
set_option linter.unusedVariables false

section
variable {P : Program} {w : World}
theorem wpList_app2 {ops : Array Oper} {rest : List Oper} {o : Oper} {a : Act} {Q : Exit → Act → World → Prop} (hgd : o.guard = none) (s x : Operand) (t : TypeId)
    (ho : o.op = .call { callee := .builtin .append, args := #[s, x], argTypes := #[t, t] })
    {base e : Nat} {z : Value} {size bytes : Nat} (ht : P.underlying t = some (.slice e)) (hinfo : (P.info? e).map (fun i => (i.zero, i.size, i.bytes)) = some (some z, size, bytes))
    (hzs : z.cells.size = size) (hsz : 0 < size) {A : Option Addr} {n c : Nat} {xs : List Value} (hs : a.eval s = .slice A n c) (hown : w.ownsRow base e size (.slice A n c) n xs)
    {A' : Option Addr} {m c' : Nat} {news : List Value} (hx : a.eval x = .slice A' m c') (hr : Rd w size A' m news) (h1 : ∀ u ∈ news, u.oneCell' = true)
    (hbytes : (n + m) * bytes ≤ 140737488355328) (hby : 0 < bytes) (hbase : base ≤ w.heap.size)
    (h : ∀ A'' c'' w', w'.ownsRow base e size (.slice A'' (n + m) c'') (n + m) (xs ++ news) → w.grownBy w' (Value.slice A n c).ownBlock → ((Value.slice A'' (n + m) c'').ownBlock = (Value.slice A n c).ownBlock ∨ ∀ b, (Value.slice A'' (n + m) c'').ownBlock = some b → w.heap.size ≤ b) → wpList P ops Q rest (a.put o.dst (.slice A'' (n + m) c'')) w') : wpList P ops Q (o :: rest) a w :=
  wpList_plain hgd fun K hK => by
    obtain ⟨A'', c'', w', hrun, h2, h3, h4⟩ := run_app2 (P := P) base t o.type e ht hinfo hzs hsz A n c xs hown A' m c' news hr h1 hbytes hby hbase
    unfold Oper.wp execOp
    simp only [ho, resolve, invoke, builtin, Sem.run_bind, Sem.run_pure, Result.andThen_ok, List.map_toArray, List.map_cons, List.map_nil, hs, hx, hrun]
    exact hK _ _ (h A'' c'' w' h2 h3 h4)
end
theorem secL_flat : ∀ (gs : List Gt) (o : Bool) (acc : List (List Gt)), (o = true → acc ≠ []) → (secL o acc gs).flatten = acc.flatten ++ gs
  | [], o, acc, _ => by rw [secL]; simp
  | g :: r, o, acc, h => by
    rw [secL]
    split
    · rename_i hh
      have ho : o = true := by rw [Bool.and_eq_true] at hh; exact hh.1
      have hne := h ho
      have hl : 0 < acc.length := List.length_pos_iff.2 hne
      have hne2 : addLast acc g ≠ [] := by intro e; have := congrArg List.length e; simp [addLast] at this; exact hne this
      rw [secL_flat r _ _ (fun _ => hne2)]
      obtain ⟨ini, last, rfl⟩ : ∃ ini last, acc = ini ++ [last] := ⟨acc.dropLast, acc.getLast hne, (List.dropLast_concat_getLast hne).symm⟩
      simp [addLast]
    · rw [secL_flat r _ _ (fun _ => by simp)]
      simp
theorem secs_flat (gs : List Gt) : (secs gs).flatten = gs := by unfold secs; rw [secL_flat _ _ _ (by simp)]; rfl
theorem secL_cnt : ∀ (gs : List Gt) (o : Bool) (acc : List (List Gt)), (secL o acc gs).length ≤ acc.length + gs.length
  | [], o, acc => by rw [secL]; simp
  | g :: r, o, acc => by
    rw [secL]
    split
    · have := secL_cnt r (ph g.k) (addLast acc g)
      simp only [addLast, List.length_set, List.length_cons] at this ⊢
      omega
    · have := secL_cnt r (ph g.k) (acc ++ [[g]])
      simp only [List.length_append, List.length_cons, List.length_nil] at this ⊢
      omega
theorem secs_cnt (gs : List Gt) : (secs gs).length ≤ gs.length := by have := secL_cnt gs false []; simpa [secs] using this
def foldAllL (n : Int) : List (List Gt) → List Gt → Int → List Gt × Int
  | [], acc, k => (acc, k)
  | s :: r, acc, k => foldAllL n r (acc ++ (foldP s n).1) ((k + (foldP s n).2) % 8)
def foldAllP (gs : List Gt) (n : Int) : List Gt × Int := foldAllL n (secs gs) [] 0
theorem foldAllL_len (n : Int) : ∀ (l : List (List Gt)) (acc : List Gt) (k : Int), (foldAllL n l acc k).1.length ≤ acc.length + 2 * l.flatten.length
  | [], acc, k => by rw [foldAllL]; simp
  | s :: r, acc, k => by
    rw [foldAllL]
    have h1 := foldAllL_len n r (acc ++ (foldP s n).1) ((k + (foldP s n).2) % 8)
    have h2 := foldP_len s n
    rw [List.length_append] at h1
    rw [List.flatten_cons, List.length_append]
    omega
theorem foldAllP_len (gs : List Gt) (n : Int) : (foldAllP gs n).1.length ≤ 2 * gs.length := by
  have := foldAllL_len n (secs gs) [] 0
  rw [secs_flat] at this
  simpa [foldAllP] using this
section
variable {α : Type} {cs : List α → List Value} {w w' : World} {sz : Nat}
theorem OwnSS.grownLow {base eo ei g : Nat} {v : Value} {l : List (List α)} (h : OwnSS cs w base eo ei sz v l) (hg : w.grownBy w' (some g)) (hlt : g < base) : OwnSS cs w' base eo ei sz v l := by
  obtain ⟨vs, h1, h2, h3⟩ := h
  have ne : ∀ {e n s : Nat} {u : Value} {xs : List Value}, w.ownsRow base e s u n xs → u.ownBlock = none ∨ u.ownBlock ≠ some g := fun ho => by
    cases hk : Value.ownBlock _ with
    | none => exact .inl rfl
    | some k => exact .inr fun e => by injection e with e; have := (ho.lt k hk).1; omega
  refine ⟨vs, h1.kept hg (ne h1), fun j x hx => ?_, h3⟩
  obtain ⟨B, c, a1, a2⟩ := h2 j x hx
  exact ⟨B, c, a1, a2.kept hg (ne a2)⟩
end
theorem dr_row2 {a b c : World} {g : Nat} {row : Option Nat} (h : a.grownBy b (some g)) (k : b.grownBy c row) (hr : ∀ i, row = some i → a.heap.size ≤ i ∨ i = g) : a.grownBy c (some g) := by
  refine ⟨k.os.trans h.os, k.tape.trans h.tape, k.output.trans h.output, Nat.le_trans h.size k.size, fun i hi hne => (k.block i (Nat.lt_of_lt_of_le hi h.size) ?_).trans (h.block i hi hne)⟩
  intro e
  rcases hr i e.symm with q | q
  · omega
  · exact hne (by rw [q])
theorem gr_below {a b c : World} {g : Nat} (h : a.grownBy b (some g)) (k : Below b.heap.size b c) : a.grownBy c (some g) :=
  ⟨k.os.trans h.os, k.tape.trans h.tape, k.output.trans h.output, Nat.le_trans h.size k.size, fun i hi hne => (k.block i (Nat.lt_of_lt_of_le hi h.size)).trans (h.block i hi hne)⟩

set_option maxRecDepth 100000 in
set_option maxHeartbeats 3200000 in
theorem i_FoldAllP (A : Option Addr) (n cap : Nat) (gs : List Gt) (N : Int) (w : World) (h : RdG w A n gs) (hn : n ≤ 1048576) :
    Calls Try.prog 35 #[.slice A n cap, .int .i64 N] w (RetGI (foldAllP gs N) w) := by
  have hz4 : (Value.agg #[.int .i64 0, .int .i64 0, .int .i64 0, .int .i64 0]).cells.size = 4 := rfl
  have B0 := Lib.hid ((Below.refl w.heap.size w).alloc (Nat.le_refl _) (.cells #[] 38))
  have H := Lib.hid (h.below B0.out)
  have hfl := secs_flat gs
  have hgl := h.1
  clear h
  obtain ⟨L, hL⟩ : ∃ L, secs gs = L := ⟨_, rfl⟩
  have hft : 2 * L.flatten.length ≤ 2097152 := by rw [← hL, hfl]; omega
  have hcnt : L.length ≤ 1048576 := by rw [← hL]; have := secs_cnt gs; omega
  obtain ⟨R, hR⟩ : ∃ R, foldAllP gs N = R := ⟨_, rfl⟩
  rw [hR]
  have HR : Hid (foldAllL N L [] 0 = R) := Lib.hid (by rw [← hR, ← hL]; rfl)
  have HLL := Lib.hid hL
  clear hR hL hfl hgl
  have OG := Lib.hid (show (w.alloc (.cells #[] 38)).ownsRow w.heap.size 38 4 (.slice (some ⟨w.heap.size, 0, none⟩) 0 0) 0 (cellsG []) from own0_bx (Nat.le_refl _) (Bx.new w _ _))
  go_enter Try.func35, Try.ntmps35
  go_wp2_with fail
  refine (i_PhaseSections _ _ _ _ _ H.out hn).mono ?_
  rintro e wS ⟨A1, c1, rfl, oS, bS⟩
  rw [HLL.out] at oS ⊢
  obtain ⟨m, hm⟩ : ∃ m, L.length = m := ⟨_, rfl⟩
  rw [hm] at oS hcnt ⊢
  have HLm := Lib.hid hm
  have SS := Lib.hid (oS.base_ (base' := w.heap.size + 1) (by simp))
  have O1 := Lib.hid (ownsRow_below OG.out bS)
  have hwS : w.heap.size + 1 ≤ wS.heap.size := by have := bS.size; simpa using this
  have BW := Lib.hid (below_trans B0.out bS)
  clear oS bS OG hm
  go_wp2_with fail
  go_loopg [6, 7, 16] m (fun r s q i wr => ∃ (k : Nat) (A3 : Option Addr) (c3 : Nat) (acc : List Gt) (kk : Int), k + r = m ∧ i = .int .i64 k ∧ s = .slice A3 acc.length c3 ∧ q = .int .i64 kk ∧ foldAllL N (L.drop k) acc kk = R ∧ acc.length + 2 * (L.drop k).flatten.length ≤ 2097152 ∧ wr.ownsRow w.heap.size 38 4 (.slice A3 acc.length c3) acc.length (cellsG acc) ∧ wS.grownBy wr (some w.heap.size) ∧ (∀ b, (Value.slice A3 acc.length c3).ownBlock = some b → wS.heap.size ≤ b ∨ b = w.heap.size) ∧ Below w.heap.size w wr)
  case atStart => exact ⟨0, _, 0, [], 0, by omega, rfl, rfl, rfl, HR.out, by simpa using hft, O1.out, World.grownBy.refl _ _, fun b hb => by simp [Value.ownBlock] at hb; omega, BW.out⟩
  case round =>
    clear O1 BW HR hft
    obtain ⟨k, A3, c3, acc, kk, hk, rfl, rfl, rfl, hf, hal, ho, hg, hbk, hb⟩ := hrel
    have HF := Lib.hid hf
    have HO := Lib.hid ho
    have HG := Lib.hid hg
    have HBK := Lib.hid hbk
    have HB := Lib.hid hb
    have hbs := hb.size
    have hgs := hg.size
    clear hf ho hg hbk hb
    by_cases hlt : k < m
    · have RS := Lib.hid ((SS.out.grownLow HG.out (by omega)).rd HLm.out)
      obtain ⟨b, off, x, B, c, rfl, hbb, hd, c0, hxc, hx⟩ := RS.out.at_ hlt
      have HX := Lib.hid (show RdG wr B x.length x from ⟨rfl, hx⟩)
      have HD := Lib.hid hd
      have hxl : (L.drop k).flatten.length = x.length + (L.drop (k + 1)).flatten.length := by rw [hd, List.flatten_cons, List.length_append]
      have hfl := foldP_len x N
      have hkI : (k : Int) < (m : Int) := by omega
      clear hd hx
      obtain ⟨⟨F, fk⟩, hfp⟩ : ∃ r, foldP x N = r := ⟨_, rfl⟩
      rw [hfp] at hfl
      have HFP := Lib.hid hfp
      have hfl2 : F.length ≤ 2 * x.length := hfl
      clear hfp hfl
      go_wp2_with fail
      refine (i_FoldP _ _ _ x N _ HX.out (by omega)).mono ?_
      rintro e w5 ⟨A5, c5, rfl, o5, b5⟩
      rw [HFP.out] at o5 ⊢
      dsimp only at o5 ⊢
      have O5 := Lib.hid o5
      have HO5 := Lib.hid (ownsRow_below HO.out b5)
      have hs5 := b5.size
      have HG5 := Lib.hid (gr_below HG.out b5)
      have HB5 := Lib.hid (below_trans HB.out b5)
      clear o5 b5
      go_wp2_with (at_builtin; refine wpList_app2 rfl (.tmp 26) (.tmp 27) 47 rfl Try.underlying47 infoGate hz4 (by decide) rfl HO5.out rfl (Rd.own O5.out) one_cellsG (by omega) (by decide) (by omega) ?_; intro A7 c7 w7 o7 g7 q7; have O7 := Lib.hid o7; have G7 := Lib.hid g7; have Q7 := Lib.hid q7; clear o7 g7 q7)
      refine (i_mod8 _ _).mono ?_
      rintro e w' ⟨rfl, rfl⟩
      rw [wrap_mod8]
      go_wp2_with fail
      go_roundg (gk - 1)
      case measure => omega
      case rel =>
        have hlen : (acc ++ F).length = acc.length + F.length := List.length_append
        refine ⟨k + 1, A7, c7, acc ++ F, (kk + fk) % 8, by omega, by go_num, by rw [hlen], rfl, by rw [← HF.out, HD.out, foldAllL, HFP.out], by omega, by rw [hlen, cellsG_append]; exact O7.out, dr_row2 HG5.out G7.out HBK.out, ?_, below_grown HB5.out HB5.out.size HO5.out (Nat.le_refl _) G7.out⟩
        intro b hb
        rw [hlen] at hb
        rcases Q7.out with h1 | h1
        · exact HBK.out b (by rw [← h1]; exact hb)
        · exact .inl (by have := h1 b hb; omega)
    · have hE : (acc, kk) = R := by
        have e := HF.out
        rw [List.drop_eq_nil_of_le (by have := HLm.out; omega)] at e
        exact e
      have HE := Lib.hid hE
      clear hE
      go_wp2_with fail
      go_ret2
      rw [← HE.out]
      exact ⟨A3, c3, rfl, HO.out, HB.out⟩

set_option maxRecDepth 100000 in
set_option maxHeartbeats 3200000 in
theorem s_FoldAllP (A : Option Addr) (n cap : Nat) (gs : List Gt) (N : Int) (w : World) (h : RdG w A n gs) (hn : n ≤ 1048576) :
    Calls Try.prog 34 #[.slice A n cap, .int .i64 N] w (RetGI (foldAllP gs N) w) := by
  have hz4 : (Value.agg #[.int .i64 0, .int .i64 0, .int .i64 0, .int .i64 0]).cells.size = 4 := rfl
  have B0 := Lib.hid ((Below.refl w.heap.size w).alloc (Nat.le_refl _) (.cells #[] 38))
  have H := Lib.hid (h.below B0.out)
  have hfl := secs_flat gs
  have hgl := h.1
  clear h
  obtain ⟨L, hL⟩ : ∃ L, secs gs = L := ⟨_, rfl⟩
  have hft : 2 * L.flatten.length ≤ 2097152 := by rw [← hL, hfl]; omega
  have hcnt : L.length ≤ 1048576 := by rw [← hL]; have := secs_cnt gs; omega
  obtain ⟨R, hR⟩ : ∃ R, foldAllP gs N = R := ⟨_, rfl⟩
  rw [hR]
  have HR : Hid (foldAllL N L [] 0 = R) := Lib.hid (by rw [← hR, ← hL]; rfl)
  have HLL := Lib.hid hL
  clear hR hL hfl hgl
  have OG := Lib.hid (show (w.alloc (.cells #[] 38)).ownsRow w.heap.size 38 4 (.slice (some ⟨w.heap.size, 0, none⟩) 0 0) 0 (cellsG []) from own0_bx (Nat.le_refl _) (Bx.new w _ _))
  go_enter Try.func34, Try.ntmps34
  go_wp2_with fail
  refine (s_PhaseSections _ _ _ _ _ H.out hn).mono ?_
  rintro e wS ⟨A1, c1, rfl, oS, bS⟩
  rw [HLL.out] at oS ⊢
  obtain ⟨m, hm⟩ : ∃ m, L.length = m := ⟨_, rfl⟩
  rw [hm] at oS hcnt ⊢
  have HLm := Lib.hid hm
  have SS := Lib.hid (oS.base_ (base' := w.heap.size + 1) (by simp))
  have O1 := Lib.hid (ownsRow_below OG.out bS)
  have hwS : w.heap.size + 1 ≤ wS.heap.size := by have := bS.size; simpa using this
  have BW := Lib.hid (below_trans B0.out bS)
  clear oS bS OG hm
  go_wp2_with fail
  go_loopg [6, 7, 9] m (fun r s q i wr => ∃ (k : Nat) (A3 : Option Addr) (c3 : Nat) (acc : List Gt) (kk : Int), k + r = m ∧ i = .int .i64 k ∧ s = .slice A3 acc.length c3 ∧ q = .int .i64 kk ∧ foldAllL N (L.drop k) acc kk = R ∧ acc.length + 2 * (L.drop k).flatten.length ≤ 2097152 ∧ wr.ownsRow w.heap.size 38 4 (.slice A3 acc.length c3) acc.length (cellsG acc) ∧ wS.grownBy wr (some w.heap.size) ∧ (∀ b, (Value.slice A3 acc.length c3).ownBlock = some b → wS.heap.size ≤ b ∨ b = w.heap.size) ∧ Below w.heap.size w wr)
  case atStart => exact ⟨0, _, 0, [], 0, by omega, rfl, rfl, rfl, HR.out, by simpa using hft, O1.out, World.grownBy.refl _ _, fun b hb => by simp [Value.ownBlock] at hb; omega, BW.out⟩
  case round =>
    clear O1 BW HR hft
    obtain ⟨k, A3, c3, acc, kk, hk, rfl, rfl, rfl, hf, hal, ho, hg, hbk, hb⟩ := hrel
    have HF := Lib.hid hf
    have HO := Lib.hid ho
    have HG := Lib.hid hg
    have HBK := Lib.hid hbk
    have HB := Lib.hid hb
    have hbs := hb.size
    have hgs := hg.size
    clear hf ho hg hbk hb
    by_cases hlt : k < m
    · have RS := Lib.hid ((SS.out.grownLow HG.out (by omega)).rd HLm.out)
      obtain ⟨b, off, x, B, c, rfl, hbb, hd, c0, hxc, hx⟩ := RS.out.at_ hlt
      have HX := Lib.hid (show RdG wr B x.length x from ⟨rfl, hx⟩)
      have HD := Lib.hid hd
      have hxl : (L.drop k).flatten.length = x.length + (L.drop (k + 1)).flatten.length := by rw [hd, List.flatten_cons, List.length_append]
      have hfl := foldP_len x N
      have hkI : (k : Int) < (m : Int) := by omega
      clear hd hx
      obtain ⟨⟨F, fk⟩, hfp⟩ : ∃ r, foldP x N = r := ⟨_, rfl⟩
      rw [hfp] at hfl
      have HFP := Lib.hid hfp
      have hfl2 : F.length ≤ 2 * x.length := hfl
      clear hfp hfl
      go_wp2_with fail
      refine (s_FoldP _ _ _ x N _ HX.out (by omega)).mono ?_
      rintro e w5 ⟨A5, c5, rfl, o5, b5⟩
      rw [HFP.out] at o5 ⊢
      dsimp only at o5 ⊢
      have O5 := Lib.hid o5
      have HO5 := Lib.hid (ownsRow_below HO.out b5)
      have hs5 := b5.size
      have HG5 := Lib.hid (gr_below HG.out b5)
      have HB5 := Lib.hid (below_trans HB.out b5)
      clear o5 b5
      go_wp2_with (at_builtin; refine wpList_app2 rfl (.tmp 30) (.tmp 31) 47 rfl Try.underlying47 infoGate hz4 (by decide) rfl HO5.out rfl (Rd.own O5.out) one_cellsG (by omega) (by decide) (by omega) ?_; intro A7 c7 w7 o7 g7 q7; have O7 := Lib.hid o7; have G7 := Lib.hid g7; have Q7 := Lib.hid q7; clear o7 g7 q7)
      refine (s_l32Rest _ _).mono ?_
      rintro e w' ⟨rfl, rfl⟩
      rw [wrap_mod8]
      go_wp2_with fail
      go_roundg (gk - 1)
      case measure => omega
      case rel =>
        have hlen : (acc ++ F).length = acc.length + F.length := List.length_append
        refine ⟨k + 1, A7, c7, acc ++ F, (kk + fk) % 8, by omega, by go_num, by rw [hlen], rfl, by rw [← HF.out, HD.out, foldAllL, HFP.out], by omega, by rw [hlen, cellsG_append]; exact O7.out, dr_row2 HG5.out G7.out HBK.out, ?_, below_grown HB5.out HB5.out.size HO5.out (Nat.le_refl _) G7.out⟩
        intro b hb
        rw [hlen] at hb
        rcases Q7.out with h1 | h1
        · exact HBK.out b (by rw [← h1]; exact hb)
        · exact .inl (by have := h1 b hb; omega)
    · have hE : (acc, kk) = R := by
        have e := HF.out
        rw [List.drop_eq_nil_of_le (by have := HLm.out; omega)] at e
        exact e
      have HE := Lib.hid hE
      clear hE
      go_wp2_with fail
      go_ret2
      rw [← HE.out]
      exact ⟨A3, c3, rfl, HO.out, HB.out⟩

end Go.Proofs.Ythfacfnknpomcaa
