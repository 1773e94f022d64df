/- Contracts of IsValidGraph (impl and spec). The graph has at most 2^40 edges. -/
import Derived.Test.YtibhikngiceeeaaMapE
import Derived.Test.YtibhikngiceeeaaConn
import Derived.BigQuiet
namespace Go.Proofs.Ytibhikngiceeeaa
open Go.RowKit

def badE (N : Int) (e : Int × Int) : Bool := (!inB e.1 0 (wrap64 (N - 1))) || ((!inB e.2 0 (wrap64 (N - 1))) || e.1 == e.2)
def okE (N : Int) : List (Int × Int) → List (Int × Int) → Bool
  | _, [] => true
  | seen, e :: r => if badE N e then false else if seen.any (· == e) then false else okE N (seen ++ [e]) r
def valid (ps : List (Int × Int)) (N : Int) : Bool := okE N [] ps && con ps N

set_option maxRecDepth 100000 in
set_option maxHeartbeats 1600000 in
theorem i_IsValidGraph (N : Int) (A : Option Addr) (n cap : Nat) (ps : List (Int × Int)) (w : World) (h : RdP w A n ps) (hn : n ≤ 1099511627776) :
    Calls Try.prog 138 #[.agg #[.int .i64 N, .slice A n cap]] w fun e w' => e = .returned (.bool (valid ps N)) ∧ Below w.heap.size w w' := by
  have H := Lib.hid h
  have hpl : ps.length = n := h.1
  clear h
  obtain ⟨R, hR⟩ : ∃ R, okE N [] ps = R := ⟨_, rfl⟩
  have HR := Lib.hid hR
  clear hR
  have hmk := run_makeMap_plain (P := Try.prog) (w := w.alloc (.cells #[.int .i64 N, .slice A n cap] 61)) 185
  go_enter Try.func138, Try.ntmps138
  go_wp2_with fail
  go_loopg [10] n (fun m i wr => ∃ (k : Nat) (es : Array MapEntry) (clock : Nat), k + m = n ∧ i = .int .i64 k ∧ okE N (ps.take k) (ps.drop k) = R ∧ Ents es.toList (ps.take k) ∧ wr.heap[w.heap.size + 1]? = some (.map es clock) ∧ Bx wr w.heap.size 61 #[.int .i64 N, .slice A n cap] ∧ Below w.heap.size w wr)
  case atStart =>
    refine ⟨0, #[], 0, by omega, rfl, by simpa using HR.out, by simp [Ents], ?_, (Bx.new w _ _).alloc _, ((Below.refl _ _).alloc (Nat.le_refl _) _).alloc (by simp) _⟩
    have := heap_alloc_new (w.alloc (.cells #[.int .i64 N, .slice A n cap] 61)) (.map #[] 0)
    simpa using this
  case round =>
    clear hmk
    obtain ⟨k, es, clock, hk, rfl, hok, hents, hmap, hx, hb⟩ := hrel
    have HO := Lib.hid hok
    have HE := Lib.hid hents
    have HX := Lib.hid hx
    have HMp := Lib.hid hmap
    clear hok hents hx hmap
    obtain ⟨p0, p1, _, _⟩ := HX.out.two
    have hs0 := hb.size
    have HP := Lib.hid (H.out.below hb)
    have hrlt : w.heap.size + 1 < wr.heap.size := (Array.getElem?_eq_some_iff.1 HMp.out).1
    by_cases hlt : k < n
    · obtain ⟨bb, off, x, y, hA, hB, hd, c0, c1⟩ := HP.out.at_ hlt
      subst hA
      have hd' := hd
      have hstep : okE N (ps.take k) (ps.drop k) = if badE N (x, y) then false else if (ps.take k).any (· == (x, y)) then false else okE N (ps.take (k + 1)) (ps.drop (k + 1)) := by
        rw [hd', okE, take_snoc hd']
      have HS := Lib.hid hstep
      have HD := Lib.hid hd
      clear hstep hd hd'
      have hsl : w.heap.size < wr.heap.size := by omega
      have XE := Lib.hid (Bx.new wr 167 #[.int .i64 x, .int .i64 y])
      have ML := Lib.hid (map_alloc (o' := .cells #[.int .i64 x, .int .i64 y] 167) HMp.out)
      cases h1 : (x == y)
      · have H1 := Lib.hid h1
        cases h2 : inB x 0 (wrap64 (N - 1))
        · have H2 := Lib.hid h2
          clear h2
          go_wp2_with fail
          refine (i_in _ _ _ _).mono ?_
          rintro e w' ⟨rfl, rfl⟩
          rw [H2.out]
          go_wp2_with fail
          go_ret
          refine ⟨ret_bool ?_, hb.alloc hs0 _⟩
          unfold valid
          rw [HR.out, ← HO.out, HS.out]
          simp [badE, H2.out]
        · have H2 := Lib.hid h2
          clear h2
          cases h3 : inB y 0 (wrap64 (N - 1))
          · have H3 := Lib.hid h3
            clear h3
            go_wp2_with fail
            refine (i_in _ _ _ _).mono ?_
            rintro e w' ⟨rfl, rfl⟩
            rw [H2.out]
            go_wp2_with fail
            refine (i_in _ _ _ _).mono ?_
            rintro e w' ⟨rfl, rfl⟩
            rw [H3.out]
            go_wp2_with fail
            go_ret
            refine ⟨ret_bool ?_, hb.alloc hs0 _⟩
            unfold valid
            rw [HR.out, ← HO.out, HS.out]
            simp [badE, H3.out]
          · have H3 := Lib.hid h3
            clear h3
            have HB : Hid (badE N (x, y) = false) := Lib.hid (by simp only [badE, H1.out, H2.out, H3.out]; rfl)
            cases h4 : (ps.take k).any (· == (x, y))
            · have H4 := Lib.hid h4
              have hl : (Instr.lookup 185 (.map (some (w.heap.size + 1))) (.agg #[.int .i64 x, .int .i64 y]) false).run Try.prog (wr.alloc (.cells #[.int .i64 x, .int .i64 y] 167)) = .ok (.bool false) (wr.alloc (.cells #[.int .i64 x, .int .i64 y] 167)) := by
                have := run_lookup_e (w.heap.size + 1) clock (x, y) es (ps.take k) _ ML.out HE.out
                rw [h4] at this
                exact this
              have hu : (Instr.mapUpdate 185 (.map (some (w.heap.size + 1))) (.agg #[.int .i64 x, .int .i64 y]) (.bool true)).run Try.prog (wr.alloc (.cells #[.int .i64 x, .int .i64 y] 167)) = .ok () _ := run_update_e (w.heap.size + 1) clock (x, y) es (ps.take k) _ ML.out HE.out h4
              clear h4
              go_wp2_with fail
              refine (i_in _ _ _ _).mono ?_
              rintro e w' ⟨rfl, rfl⟩
              rw [H2.out]
              go_wp2_with fail
              refine (i_in _ _ _ _).mono ?_
              rintro e w' ⟨rfl, rfl⟩
              rw [H3.out]
              go_wp2_with fail
              go_roundg (gk - 1)
              case measure => omega
              case rel =>
                refine ⟨k + 1, _, _, by omega, by go_num, ?_, ?_, map_setObj ML.out, ((HX.out.alloc _).setObj (by omega) _), below_setObj (hb.alloc hs0 _) (by omega) _⟩
                · rw [← HO.out, HS.out, HB.out, H4.out]; rfl
                · rw [take_snoc HD.out]; exact HE.out.push (x, y) clock
            · have H4 := Lib.hid h4
              have hl : (Instr.lookup 185 (.map (some (w.heap.size + 1))) (.agg #[.int .i64 x, .int .i64 y]) false).run Try.prog (wr.alloc (.cells #[.int .i64 x, .int .i64 y] 167)) = .ok (.bool true) (wr.alloc (.cells #[.int .i64 x, .int .i64 y] 167)) := by
                have := run_lookup_e (w.heap.size + 1) clock (x, y) es (ps.take k) _ ML.out HE.out
                rw [h4] at this
                exact this
              clear h4
              go_wp2_with fail
              refine (i_in _ _ _ _).mono ?_
              rintro e w' ⟨rfl, rfl⟩
              rw [H2.out]
              go_wp2_with fail
              refine (i_in _ _ _ _).mono ?_
              rintro e w' ⟨rfl, rfl⟩
              rw [H3.out]
              go_wp2_with fail
              go_ret
              refine ⟨ret_bool ?_, hb.alloc hs0 _⟩
              unfold valid
              rw [HR.out, ← HO.out, HS.out, H4.out]
              simp
      · have H1 := Lib.hid h1
        go_wp2_with fail
        go_ret
        refine ⟨ret_bool ?_, hb.alloc hs0 _⟩
        unfold valid
        rw [HR.out, ← HO.out, HS.out]
        simp [badE, H1.out]
    · go_wp2_with fail
      refine (i_IsConnected _ _ _ _ _ _ HP.out hn).mono ?_
      rintro e w2 ⟨rfl, b2⟩
      go_wp2_with fail
      go_ret
      refine ⟨ret_bool ?_, hb.trans (b2.mono hs0)⟩
      unfold valid
      rw [HR.out, ← HO.out, List.drop_eq_nil_of_le (by omega), okE, Bool.true_and]

theorem take_drop_cons {l : List (Int × Int)} {i k : Nat} {p : Int × Int} (h : l.drop k = p :: l.drop (k + 1)) (hk : k < i) : (l.take i).drop k = p :: (l.take i).drop (k + 1) := by
  rw [List.drop_take, List.drop_take, h, show i - k = (i - (k + 1)) + 1 by omega, List.take_succ_cons]

set_option maxRecDepth 100000 in
set_option maxHeartbeats 1600000 in
theorem s_IsValidGraph (N : Int) (A : Option Addr) (n cap : Nat) (ps : List (Int × Int)) (w : World) (h : RdP w A n ps) (hn : n ≤ 1099511627776) :
    Calls Try.prog 92 #[.agg #[.int .i64 N, .slice A n cap]] w fun e w' => e = .returned (.bool (valid ps N)) ∧ Below w.heap.size w w' := by
  have H := Lib.hid h
  have hpl : ps.length = n := h.1
  clear h
  obtain ⟨R, hR⟩ : ∃ R, okE N [] ps = R := ⟨_, rfl⟩
  have HR := Lib.hid hR
  clear hR
  go_enter Try.func92, Try.ntmps92
  go_wp2_with fail
  go_loopg [3] n (fun m i wr => ∃ (k : Nat), k + m = n ∧ i = .int .i64 k ∧ okE N (ps.take k) (ps.drop k) = R ∧ Bx wr w.heap.size 61 #[.int .i64 N, .slice A n cap] ∧ Below w.heap.size w wr)
  case atStart => exact ⟨0, by omega, rfl, by simpa using HR.out, Bx.new w _ _, (Below.refl _ _).alloc (Nat.le_refl _) _⟩
  case round =>
    obtain ⟨k, hk, rfl, hok, hx, hb⟩ := hrel
    have HO := Lib.hid hok
    have HX := Lib.hid hx
    clear hok hx
    obtain ⟨p0, p1, _, _⟩ := HX.out.two
    have hs0 := hb.size
    have HP := Lib.hid (H.out.below hb)
    have hsl : w.heap.size < wr.heap.size := HX.out.lt
    by_cases hlt : k < n
    · obtain ⟨bb, off, x, y, hA, hB, hd, c0, c1⟩ := HP.out.at_ hlt
      subst hA
      have hstep : okE N (ps.take k) (ps.drop k) = if badE N (x, y) then false else if (ps.take k).any (· == (x, y)) then false else okE N (ps.take (k + 1)) (ps.drop (k + 1)) := by
        rw [hd, okE, take_snoc hd]
      have HS := Lib.hid hstep
      have HD := Lib.hid hd
      clear hstep hd
      have XE := Lib.hid (Bx.new wr 167 #[.int .i64 x, .int .i64 y])
      cases h2 : inB x 0 (wrap64 (N - 1))
      · have H2 := Lib.hid h2
        clear h2
        go_wp2_with fail
        refine (s_in _ _ _ _).mono ?_
        rintro e w' ⟨rfl, rfl⟩
        rw [H2.out]
        go_wp2_with fail
        go_ret
        refine ⟨ret_bool ?_, hb.alloc hs0 _⟩
        unfold valid
        rw [HR.out, ← HO.out, HS.out]
        simp [badE, H2.out]
      · have H2 := Lib.hid h2
        clear h2
        cases h3 : inB y 0 (wrap64 (N - 1))
        · have H3 := Lib.hid h3
          clear h3
          go_wp2_with fail
          refine (s_in _ _ _ _).mono ?_
          rintro e w' ⟨rfl, rfl⟩
          rw [H2.out]
          go_wp2_with fail
          refine (s_in _ _ _ _).mono ?_
          rintro e w' ⟨rfl, rfl⟩
          rw [H3.out]
          go_wp2_with fail
          go_ret
          refine ⟨ret_bool ?_, hb.alloc hs0 _⟩
          unfold valid
          rw [HR.out, ← HO.out, HS.out]
          simp [badE, H3.out]
        · have H3 := Lib.hid h3
          clear h3
          cases h1 : (x == y)
          · have H1 := Lib.hid h1
            have HB : Hid (badE N (x, y) = false) := Lib.hid (by simp only [badE, H1.out, H2.out, H3.out]; rfl)
            obtain ⟨X, hX⟩ : ∃ X, (ps.take k).any (· == (x, y)) = X := ⟨_, rfl⟩
            have HXX := Lib.hid hX
            clear hX
            go_wp2_with fail
            refine (s_in _ _ _ _).mono ?_
            rintro e w' ⟨rfl, rfl⟩
            rw [H2.out]
            go_wp2_with fail
            refine (s_in _ _ _ _).mono ?_
            rintro e w' ⟨rfl, rfl⟩
            rw [H3.out]
            go_wp2_with fail
            clear h1
            have b0a := hb.alloc hs0 (.cells #[.int .i64 x, .int .i64 y] 167)
            have XG := Lib.hid (HX.out.alloc (.cells #[.int .i64 x, .int .i64 y] 167))
            obtain ⟨wo, hwo⟩ : ∃ wo, wo = wr.alloc (.cells #[.int .i64 x, .int .i64 y] 167) := ⟨_, rfl⟩
            rw [← hwo] at b0a XG XE ⊢
            obtain ⟨go, rfl⟩ : ∃ go, go = gk := ⟨_, rfl⟩
            clear p0 p1 c0 c1 hwo
            generalize wr.heap.size = ge at XE ⊢
            go_loopg [5] k (fun m j wr => ∃ (l : Nat), l + m = k ∧ j = .int .i64 l ∧ ((ps.take k).drop l).any (· == (x, y)) = X ∧ Below wo.heap.size wo wr)
            case atStart => exact ⟨0, by omega, rfl, HXX.out, Below.refl _ _⟩
            case round =>
              obtain ⟨l, hl, rfl, hany, hbo⟩ := hrel
              have HAn := Lib.hid hany
              clear hany
              obtain ⟨p0, p1, _, _⟩ := (XG.out.below hbo).two
              obtain ⟨e0, e1, _, _⟩ := (XE.out.below hbo).two
              have b0 := b0a.trans (hbo.mono b0a.size)
              by_cases hll : l < k
              · obtain ⟨bb', off', x', y', hA', hB', hd', d0, d1⟩ := (H.out.below b0).at_ (show l < n by omega)
                injection hA' with hA'
                injection hA' with hA1 hA2 _
                subst hA1 hA2
                have HD2 := Lib.hid (take_drop_cons hd' hll)
                clear hd'
                have hi0 : (0 : Int) ≤ (l : Int) := by omega
                have hi1 : (l : Int) < (n : Int) := by omega
                have hM : Try.prog.eqGuardType Try.prog.depth 167 = false := by kernel_rfl
                cases h5 : (x' == x && y' == y)
                · have hE : ∀ w, (Op.equalIn 10000 167 (.agg #[.int .i64 x', .int .i64 y']) (.agg #[.int .i64 x, .int .i64 y])).run Try.prog w = .ok false w := fun w => by rw [eqEdgeV, h5]
                  have H5 := Lib.hid h5
                  clear h5
                  go_wp2_with fail
                  go_quiet (fail)
                  go_wp2_with fail
                  go_roundg (gk - 1)
                  case measure => omega
                  case rel =>
                    refine ⟨l + 1, by omega, by go_num, ?_, ⟨hbo.os, hbo.tape, hbo.output, hbo.size, hbo.block⟩⟩
                    rw [← HAn.out, HD2.out, List.any_cons, pair_beq, H5.out, Bool.false_or]
                · have hE : ∀ w, (Op.equalIn 10000 167 (.agg #[.int .i64 x', .int .i64 y']) (.agg #[.int .i64 x, .int .i64 y])).run Try.prog w = .ok true w := fun w => by rw [eqEdgeV, h5]
                  have H5 := Lib.hid h5
                  clear h5
                  go_wp2_with fail
                  go_quiet (fail)
                  go_wp2_with fail
                  go_ret
                  refine ⟨ret_bool ?_, ⟨b0.os, b0.tape, b0.output, b0.size, b0.block⟩⟩
                  have e5 : X = true := by rw [← HAn.out, HD2.out, List.any_cons, pair_beq, H5.out, Bool.true_or]
                  unfold valid
                  rw [HR.out, ← HO.out, HS.out, HXX.out, e5]
                  simp
              · go_wp2_with fail
                go_roundg (go - 1)
                case measure => omega
                case rel =>
                  obtain rfl : l = k := by omega
                  have e5 : X = false := by rw [← HAn.out, List.drop_eq_nil_of_le (by simp; omega)]; rfl
                  refine ⟨l + 1, by omega, by go_num, ?_, XG.out.below hbo, b0⟩
                  rw [← HO.out, HS.out, HB.out, HXX.out, e5]; rfl
          · have H1 := Lib.hid h1
            go_wp2_with fail
            refine (s_in _ _ _ _).mono ?_
            rintro e w' ⟨rfl, rfl⟩
            rw [H2.out]
            go_wp2_with fail
            refine (s_in _ _ _ _).mono ?_
            rintro e w' ⟨rfl, rfl⟩
            rw [H3.out]
            go_wp2_with fail
            go_ret
            refine ⟨ret_bool ?_, hb.alloc hs0 _⟩
            unfold valid
            rw [HR.out, ← HO.out, HS.out]
            simp [badE, H1.out]
    · go_wp2_with fail
      refine (s_IsConnected _ _ _ _ _ _ HP.out hn).mono ?_
      rintro e w2 ⟨rfl, b2⟩
      go_wp2_with fail
      go_ret
      refine ⟨ret_bool ?_, hb.trans (b2.mono hs0)⟩
      unfold valid
      rw [HR.out, ← HO.out, List.drop_eq_nil_of_le (by omega), okE, Bool.true_and]
end Go.Proofs.Ytibhikngiceeeaa
