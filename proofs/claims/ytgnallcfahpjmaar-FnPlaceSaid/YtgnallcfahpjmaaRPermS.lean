/- Contract of spec.AllPermutations and l37Grow. No condition. -/
import Derived.Test.YtgnallcfahpjmaaRPermsP
import Derived.Test.YtgnallcfahpjmaaRSS
import Derived.Test.YtgnallcfahpjmaaRIntS
import Derived.Test.YtgnallcfahpjmaaRReads
import Derived.Outline
namespace Go.Proofs.YtgnallcfahpjmaaR
open Go.RowKit

/-- What a function that hands back a new slice of slices of numbers comes to. -/
def RetII (l : List (List Int)) (w : World) (e : Ending) (w' : World) : Prop :=
  ∃ A c, e = .returned (.slice A l.length c) ∧ OwnSS cellsI w' w.heap.size 47 3 1 (.slice A l.length c) l ∧ Below w.heap.size w w'
theorem infoIntS : (Try.prog.info? 47).map (fun i => (i.zero, i.size, i.bytes)) = some (some (.slice none 0 0), 1, 24) := by kernel_rfl

theorem one_slices {α : Type} {cs : List α → List Value} {w : World} {base eo ei sz : Nat} {v : Value} {l : List (List α)} {vs : List Value} (h1 : w.ownsRow base eo 1 v l.length vs)
    (h2 : ∀ (j : Nat) (x : List α), l[j]? = some x → ∃ B c, vs[j]? = some (Value.slice B x.length c) ∧ w.ownsRow base ei sz (.slice B x.length c) x.length (cs x)) : ∀ u ∈ vs, u.oneCell' = true := by
  intro u hu
  obtain ⟨j, hj, rfl⟩ := List.mem_iff_getElem.1 hu
  have hl : vs.length = l.length := by simpa using h1.1
  obtain ⟨B, c, a1, _⟩ := h2 j l[j] (List.getElem?_eq_getElem (by omega))
  rw [List.getElem?_eq_getElem hj] at a1
  injection a1 with a1
  rw [a1]
  rfl

theorem own_uniq {w : World} {b1 b2 : Nat} {e : TypeId} {sz n : Nat} {v : Value} {xs ys : List Value} (h1 : w.ownsRow b1 e sz v n xs) (h2 : w.ownsRow b2 e sz v n ys) : xs = ys := by
  have l1 := h1.1
  have l2 := h2.1
  rcases h1.2 with ⟨rfl, rfl⟩ | ⟨g, cap, cur, rfl, _, hh, _, _, _, ht⟩
  · rw [List.eq_nil_of_length_eq_zero (by omega : xs.length = 0), List.eq_nil_of_length_eq_zero (by omega : ys.length = 0)]
  · rcases h2.2 with ⟨h3, _⟩ | ⟨g', cap', cur', h3, _, hh', _, _, _, ht'⟩
    · simp at h3
    · simp only [Value.slice.injEq, Option.some.injEq, Addr.mk.injEq, and_true, true_and] at h3
      obtain ⟨rfl, rfl⟩ := h3
      rw [hh] at hh'
      injection hh' with hh'
      injection hh' with hc _
      subst hc
      rw [← ht, ← ht']

set_option maxRecDepth 100000 in
set_option maxHeartbeats 1600000 in
theorem s_grow (n : Nat) (hn : n ≤ 4) : ∀ (m : Nat) (A : Option Addr) (c : Nat) (head : List Int) (w : World), RdI w A head.length head → head.length + m = n →
    Calls Try.prog 160 #[.int .i64 n, .slice A head.length c] w (RetII (growP n m head) w)
  | 0, A, c, head, w, h, hm => by
    have H := Lib.hid h
    obtain ⟨k, hk⟩ : ∃ k, head.length = k := ⟨_, rfl⟩
    rw [hk] at hm ⊢
    have HK := Lib.hid hk
    obtain rfl : k = n := by omega
    clear h hk
    go_enter Try.func160, Try.ntmps160
    go_wp2_with (at_builtin; refine wpList_app0 rfl (.tmp 11) (.tmp 12) 47 rfl Try.underlying47 infoInt1 rfl (by decide) rfl (World.ownsRow_lit (base := w.heap.size) w #[] 0 (Nat.le_refl _) (by simp [maxLen]) rfl) rfl (by have := (H.out.alloc (.cells #[] 3)).2; rw [HK.out] at this; exact this) one_cellsI (by omega) (by decide) (by simp) ?_; intro A2 c2 w2 o2 g2)
    go_ret
    have hs := g2.size
    simp only [World.size_alloc] at hs
    have hb : Below w.heap.size w w2 := below_grown ((Below.refl _ _).alloc (Nat.le_refl _) _) (by simp) (World.ownsRow_lit (base := w.heap.size) (e := 3) (size := 1) w #[] 0 (Nat.le_refl _) (by simp [maxLen]) rfl) (Nat.le_refl _) g2
    refine ⟨_, 1, rfl, ⟨[.slice A2 k c2], World.ownsRow_lit w2 #[.slice A2 k c2] 1 (by omega) (by simp [maxLen]) rfl, fun j x hx => ?_, fun i j u u' hij hu hu' => ?_⟩, hb.alloc (by omega) _⟩
    · have hj : j = 0 := by
        have := (List.getElem?_eq_some_iff.1 hx).1
        simp [growP] at this
        omega
      subst hj
      simp [growP] at hx
      subst hx
      exact ⟨A2, c2, by rw [HK.out]; rfl, by rw [HK.out]; exact o2.alloc _⟩
    · have h1 := (List.getElem?_eq_some_iff.1 hu).1
      have h2 := (List.getElem?_eq_some_iff.1 hu').1
      simp at h1 h2
      omega
  | m + 1, A, c, head, w, h, hm => by
    have H := Lib.hid h
    obtain ⟨k, hk⟩ : ∃ k, head.length = k := ⟨_, rfl⟩
    rw [hk] at hm ⊢
    have HK := Lib.hid hk
    have hkn : ((k : Int) == (n : Int)) = false := by simp; omega
    clear h hk
    have IH := Lib.hid (s_grow n hn m)
    obtain ⟨R, hR⟩ : ∃ R, growP n (m + 1) head = R := ⟨_, rfl⟩
    have hRl : R.length ≤ 256 := by rw [← hR]; exact growP_le n hn (m + 1) (by omega) head
    have HR : Hid (growK (growP n m) head 0 n = R) := Lib.hid (by rw [← hR, growP])
    rw [hR]
    clear hR
    have hk4 : k ≤ 4 := by omega
    go_enter Try.func160, Try.ntmps160
    go_wp2_with fail
    clear hkn
    go_loopg [5, 6] n (fun r v i wr => ∃ (x : Nat) (l : List (List Int)) (A0 : Option Addr) (c0 : Nat), x + r = n ∧ i = .int .i64 x ∧ v = .slice A0 l.length c0 ∧ l ++ growK (growP n m) head x r = R ∧ OwnSS cellsI wr w.heap.size 47 3 1 (.slice A0 l.length c0) l ∧ Below w.heap.size w wr)
    case atStart => exact ⟨0, [], _, _, by omega, rfl, rfl, HR.out, OwnSS.lit0 w (Nat.le_refl _) _ _ _ _, (Below.refl _ _).alloc (Nat.le_refl _) _⟩
    case round =>
      obtain ⟨x, l, A0, c0, hx, rfl, rfl, hl, ho, hb⟩ := hrel
      have HL := Lib.hid hl
      have HO := Lib.hid ho
      have hll : l.length ≤ 256 := by rw [← hl] at hRl; rw [List.length_append] at hRl; omega
      obtain ⟨q, hq⟩ : ∃ q, l.length = q := ⟨_, rfl⟩
      rw [hq] at hll ⊢
      have HQ := Lib.hid hq
      clear hl ho hq
      by_cases hlt : x < n
      · have HS := Lib.hid (growK_step (g := growP n m) (head := head) hx hlt)
        have hR := HK.out
        have hr0 := (H.out.below hb)
        rw [HK.out] at hr0
        have HR0 := Lib.hid hr0
        clear hr0 hR
        cases hu : hasI head (x : Int)
        · have HU := Lib.hid hu
          clear hu
          go_wp2_with fail
          refine (s_hasI _ _ _ head _ _ HR0.out (by omega)).mono ?_
          rintro e w1 ⟨rfl, rfl⟩
          rw [HU.out]
          have hs1 := hb.size
          go_wp2_with (at_builtin; first
            | (refine wpList_app0 rfl (.tmp 27) (.tmp 28) 47 rfl Try.underlying47 infoInt1 rfl (by decide) rfl (World.ownsRow_lit (base := wr.heap.size) wr #[] 0 (Nat.le_refl _) (by simp [maxLen]) rfl) rfl (HR0.out.alloc (.cells #[] 3)).2 one_cellsI (by omega) (by decide) (by simp) ?_; intro A2 c2 w2 o2 g2)
            | (refine wpList_app rfl (.tmp 29) (.tmp 31) 47 rfl Try.underlying47 infoInt1 rfl (by decide) rfl (o2.alloc _) rfl (Rd.lit _ 3 #[.int .i64 (x : Int)] 1 1 rfl) (by simp [Value.oneCell']) (by omega) (by decide) (by have := g2.size; simp at this ⊢; omega) ?_; intro A3 c3 w3 o3 g3))
          have hs2 := g2.size
          simp only [World.size_alloc] at hs2
          have hs3 := g3.size
          simp only [World.size_alloc] at hs3
          have b2 : Below wr.heap.size wr w2 := below_grown ((Below.refl _ _).alloc (Nat.le_refl _) _) (by simp) (World.ownsRow_lit (base := wr.heap.size) (e := 3) (size := 1) wr #[] 0 (Nat.le_refl _) (by simp [maxLen]) rfl) (Nat.le_refl _) g2
          have b3 : Below wr.heap.size wr w3 := below_grown (b2.alloc (by omega) _) (by simp; omega) (o2.alloc _) (Nat.le_refl _) g3
          have o3' : w3.ownsRow wr.heap.size 3 1 (.slice A3 (k + 1) c3) (k + 1) (cellsI (head ++ [(x : Int)])) := by rw [cellsI_append]; exact o3
          have O3 := Lib.hid o3'
          have hhl : (head ++ [(x : Int)]).length = k + 1 := by rw [List.length_append, HK.out]; rfl
          have HHL := Lib.hid hhl
          have B3 := Lib.hid b3
          clear o2 g2 o3 g3 o3' b2 b3 hhl
          have ih := IH.out A3 c3 (head ++ [(x : Int)]) w3 (by rw [HHL.out]; exact RdI.own O3.out) (by rw [HHL.out]; omega)
          rw [HHL.out] at ih
          refine ih.mono ?_
          clear ih
          rintro e w4 ⟨A4, c4, rfl, o4, b4⟩
          obtain ⟨l4, hl4⟩ : ∃ l4, growP n m (head ++ [(x : Int)]) = l4 := ⟨_, rfl⟩
          have hl4l : l4.length ≤ 256 := by rw [← hl4]; exact growP_le n hn m (by omega) _
          rw [hl4] at o4 ⊢
          obtain ⟨vs4, a1, a2, a3⟩ := o4
          have B4 := Lib.hid (below_trans B3.out b4)
          have HL4 := Lib.hid hl4
          have A1 := Lib.hid a1
          have A2' := Lib.hid a2
          have A3' := Lib.hid a3
          obtain ⟨vs0, d1, d2, d3⟩ := HO.out.below B4.out
          have D1 := Lib.hid d1
          have hs4 : w3.heap.size ≤ w4.heap.size := b4.size
          clear a1 a2 a3 d1 d2 d3 b4 hl4
          rw [HQ.out] at D1
          go_wp2_with (at_builtin; refine wpList_app rfl (.tmp 25) (.tmp 33) 54 rfl Try.underlying54 infoIntS rfl (by decide) rfl D1.out rfl (Rd.own A1.out) (one_slices A1.out A2'.out) (by omega) (by decide) (by omega) ?_; intro A5 c5 w5 o5 g5)
          go_roundg (gk - 1)
          case measure => omega
          case rel =>
            have hap := OwnSS.app (B := w3.heap.size) (w0 := wr) (w1 := w4) (w2 := w5) (l := l) (l' := l4) (vs' := vs4) (v'' := .slice A5 (q + l4.length) c5) (by decide) HO.out B3.out.size (by have := B3.out.size; omega) B4.out A2'.out A3'.out (by simpa using A1.out.1) (by rw [HQ.out]; exact g5) (fun vs hv => ?_)
            · refine ⟨x + 1, l ++ l4, A5, c5, by omega, by go_num, by rw [List.length_append, HQ.out], ?_, ?_, below_grown (hb.trans (B4.out.mono hb.size)) ?_ D1.out (Nat.le_refl _) g5⟩
              · rw [← HL.out, HS.out, if_neg (by rw [HU.out]; simp), HL4.out, List.append_assoc]
              · rw [List.length_append, HQ.out]; exact hap
              · have := B4.out.size; omega
            · have : vs = vs0 := by
                rw [HQ.out] at hv
                exact own_uniq hv D1.out
              rw [this, HQ.out]
              exact o5
        · have HU := Lib.hid hu
          clear hu
          go_wp2_with fail
          refine (s_hasI _ _ _ head _ _ HR0.out (by omega)).mono ?_
          rintro e w1 ⟨rfl, rfl⟩
          rw [HU.out]
          go_wp2_with fail
          go_roundg (gk - 1)
          case measure => omega
          case rel =>
            refine ⟨x + 1, l, A0, c0, by omega, by go_num, by rw [HQ.out], ?_, HO.out, hb⟩
            rw [← HL.out, HS.out, if_pos HU.out, List.nil_append]
      · go_wp2_with fail
        go_ret
        have hR : l = R := by
          have h1 := HL.out
          have h2 : gk = 0 := by omega
          rw [h2, growK, List.append_nil] at h1
          exact h1
        subst hR
        refine ⟨A0, c0, ?_, HO.out, hb⟩
        rw [HQ.out]
        rfl
theorem s_AllPermutations (N : Int) (w : World) : Calls Try.prog 97 #[.int .i64 N] w (RetII (perms N) w) := by
  by_cases h : 1 ≤ N ∧ N ≤ 4
  · obtain ⟨h1, h4⟩ := h
    obtain ⟨n, rfl⟩ : ∃ n : Nat, N = n := ⟨N.toNat, by omega⟩
    have HP := Lib.hid (perms_in h1 h4)
    have hin : Hid (inB (n : Int) 1 4 = true) := Lib.hid (inB_iff.2 ⟨h1, h4⟩)
    go_enter Try.func97, Try.ntmps97
    go_wp2_with fail
    refine (s_in _ _ _ _).mono ?_
    rintro e w1 ⟨rfl, rfl⟩
    rw [hin.out]
    go_wp2_with fail
    refine (s_grow n (by omega) n _ _ [] _ (RdI.own (World.ownsRow_lit (e := 3) (size := 1) w #[] 0 (Nat.le_refl _) (by simp [maxLen]) rfl)) (by simp)).mono ?_
    rintro e w2 ⟨A2, c2, rfl, o2, b2⟩
    go_wp2_with fail
    go_ret
    rw [HP.out, Int.toNat_natCast]
    exact ⟨A2, c2, rfl, o2.base_ (by simp), below_alloc b2⟩
  · have HP := Lib.hid (perms_out (N := N) (by omega))
    have hin : Hid (inB N 1 4 = false) := Lib.hid (by rw [← Bool.not_eq_true, inB_iff]; exact h)
    go_enter Try.func97, Try.ntmps97
    go_wp2_with fail
    refine (s_in _ _ _ _).mono ?_
    rintro e w1 ⟨rfl, rfl⟩
    rw [hin.out]
    go_wp2_with fail
    go_ret
    rw [HP.out]
    exact ⟨_, _, rfl, OwnSS.lit0 w (Nat.le_refl _) _ _ _ _, (Below.refl _ _).alloc (Nat.le_refl _) _⟩
end Go.Proofs.YtgnallcfahpjmaaR
