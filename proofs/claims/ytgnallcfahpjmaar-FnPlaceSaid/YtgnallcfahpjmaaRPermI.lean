/- Contract of impl.AllPermutations, whose closure calls itself. No condition. -/
import Derived.Test.YtgnallcfahpjmaaRPermS
import Derived.Deep.RegionHeld3
import Derived.Deep.RegionLaw
namespace Go.Proofs.YtgnallcfahpjmaaR
open Go.RowKit

/-- What holds numbers or functions is as it was. -/
def KeepT (w w' : World) : Prop := ∀ (k t : Nat) (cs : Array Value) (fr : Nat × Nat), t ≠ 47 → t ≠ 54 → w.heap[k]? = some (.cells cs t fr) → w'.heap[k]? = some (.cells cs t fr)
theorem KeepT.refl (w : World) : KeepT w w := fun _ _ _ _ _ _ h => h
theorem KeepT.trans {a b c : World} (h : KeepT a b) (k : KeepT b c) : KeepT a c := fun i t cs fr h1 h2 h3 => k i t cs fr h1 h2 (h i t cs fr h1 h2 h3)
theorem KeepT.drew {a b : World} (h : KeepT a b) : KeepT a b.drew := h
theorem KeepT.alloc {a b : World} (h : KeepT a b) (o : Obj) : KeepT a (b.alloc o) := fun i t cs fr h1 h2 h3 => by
  have h4 := h i t cs fr h1 h2 h3
  rw [Below.heap_alloc b o i (Array.getElem?_eq_some_iff.1 h4).1]
  exact h4
theorem KeepT.below {a b : World} (h : Below a.heap.size a b) : KeepT a b := fun i _ _ _ _ _ h3 => (h.block i (Array.getElem?_eq_some_iff.1 h3).1).trans h3
theorem KeepT.grown {a b c : World} (h : KeepT a b) {base sz n : Nat} {v : Value} {xs : List Value} (ho : b.ownsRow base 47 sz v n xs) (hg : b.grownBy c v.ownBlock) : KeepT a c := fun i t cs fr h1 h2 h3 => by
  have h4 := h i t cs fr h1 h2 h3
  refine (hg.block i (Array.getElem?_eq_some_iff.1 h4).1 fun he => ?_).trans h4
  rcases ho.2 with ⟨rfl, _⟩ | ⟨g, cap, cur, rfl, _, hh, _⟩
  · simp [Value.ownBlock] at he
  · have : i = g := by simpa [Value.ownBlock] using he
    subst this
    rw [hh] at h4
    injection h4 with h4
    injection h4 with _ ht
    exact h1 ht.symm
theorem KeepT.set_ {a b : World} (h : KeepT a b) {g : Nat} {cs : Array Value} (hb : Bx b g 54 cs) (i : Nat) (u : Value) : KeepT a (b.setCell ⟨g, i, none⟩ u) := fun j t ds fr h1 h2 h3 => by
  have h4 := h j t ds fr h1 h2 h3
  rw [Below.heap_setCell b _ u j (fun e => ?_)]
  · exact h4
  · have e' : j = g := e
    subst e'
    unfold Bx at hb
    rw [hb] at h4
    injection h4 with h4
    injection h4 with _ ht
    exact h2 ht.symm
theorem KeepT.bx {a b : World} (h : KeepT a b) {g t : Nat} {cs : Array Value} (hb : Bx a g t cs) (h1 : t ≠ 47) (h2 : t ≠ 54) : Bx b g t cs := h g t cs (0, 0) h1 h2 hb
theorem KeepT.own {a b : World} (h : KeepT a b) {base t sz n : Nat} {v : Value} {xs : List Value} (ho : a.ownsRow base t sz v n xs) (h1 : t ≠ 47) (h2 : t ≠ 54) : b.ownsRow base t sz v n xs := by
  refine ⟨ho.1, ?_⟩
  rcases ho.2 with h0 | ⟨g, cap, cur, e1, e2, e3, e4⟩
  · exact .inl h0
  · exact .inr ⟨g, cap, cur, e1, e2, h g t cur (0, 0) h1 h2 e3, e4⟩

/-- The three variables of AllPermutations that its closure holds, and the rows laid so far. -/
structure Ext (w : World) (B n gn go ge : Nat) (l : List (List Int)) (A : Option Addr) (c : Nat) : Prop where
  bn : Bx w gn 3 #[.int .i64 (n : Int)]
  bo : Bx w go 54 #[.slice A l.length c]
  be : Bx w ge 107 #[.func (.func 98) #[] #[.pointer (some ⟨gn, 0, none⟩), .pointer (some ⟨go, 0, none⟩), .pointer (some ⟨ge, 0, none⟩)]]
  rows : OwnSS cellsI w B 47 3 1 (.slice A l.length c) l
  hB : B ≤ w.heap.size
  hgo : B ≤ go

theorem Ext.below {w w' : World} {B n gn go ge : Nat} {l : List (List Int)} {A : Option Addr} {c : Nat} (h : Ext w B n gn go ge l A c) (hb : Below w.heap.size w w') : Ext w' B n gn go ge l A c :=
  ⟨h.bn.below hb, h.bo.below hb, h.be.below hb, h.rows.below hb, Nat.le_trans h.hB hb.size, h.hgo⟩

def EndExt (B n gn go ge : Nat) (l : List (List Int)) (w : World) (e : Ending) (w' : World) : Prop :=
  e = .returned (.tuple #[]) ∧ ∃ A c, Ext w' B n gn go ge l A c ∧ Below B w w' ∧ KeepT w w'

theorem own_setFar {w : World} {base : Nat} {e t : TypeId} {sz n g : Nat} {v : Value} {xs : List Value} {cs : Array Value} (h : w.ownsRow base e sz v n xs) (hg : Bx w g t cs) (hne : e ≠ t) (i : Nat) (u : Value) : (w.setCell ⟨g, i, none⟩ u).ownsRow base e sz v n xs := by
  refine h.kept (row := some g) ⟨rfl, rfl, rfl, by simp [World.setCell], fun k _ hk => Below.heap_setCell w _ u k (fun e => hk (by rw [e]))⟩ (.inr fun he => own_bx_ne h hg hne he.symm)
theorem OwnSS.setFar {α : Type} {cs : List α → List Value} {w : World} {base eo ei sz g t : Nat} {v : Value} {l : List (List α)} {ds : Array Value} (h : OwnSS cs w base eo ei sz v l) (hg : Bx w g t ds) (h1 : eo ≠ t) (h2 : ei ≠ t) (i : Nat) (u : Value) : OwnSS cs (w.setCell ⟨g, i, none⟩ u) base eo ei sz v l := by
  obtain ⟨vs, a1, a2, a3⟩ := h
  refine ⟨vs, own_setFar a1 hg h1 i u, fun j x hx => ?_, a3⟩
  obtain ⟨D, c, b1, b2⟩ := a2 j x hx
  exact ⟨D, c, b1, own_setFar b2 hg h2 i u⟩

theorem ext_leaf {w w2 w3 : World} {B n gn go ge k c2 c3 q : Nat} {l : List (List Int)} {A0 A2 A3 : Option Addr} {c0 : Nat} {head : List Int} {vs0 : List Value} (hx : Ext w B n gn go ge l A0 c0) (hk : head.length = k) (hq : l.length = q) (b2 : Below w.heap.size w w2)
    (o2 : w2.ownsRow w.heap.size 3 1 (.slice A2 k c2) k (cellsI head)) (d1 : w.ownsRow B 47 1 (.slice A0 q c0) q vs0)
    (o3 : w3.ownsRow B 47 1 (.slice A3 (q + 1) c3) (q + 1) (vs0 ++ [.slice A2 k c2])) (g3 : (w2.alloc (.cells #[.slice A2 k c2] 47)).grownBy w3 (Value.slice A0 q c0).ownBlock) :
    EndExt B n gn go ge (l ++ growP n 0 head) w (.returned (.tuple #[])) (w3.setCell ⟨go, 0, none⟩ (.slice A3 (q + 1) c3)) := by
  subst hq hk
  have hs2 := b2.size
  have D2 := (ownsRow_below d1 b2).alloc (.cells #[.slice A2 head.length c2] 47)
  have X2 := (hx.bo.below b2).alloc (.cells #[.slice A2 head.length c2] 47)
  have X3 := kept_app D2 g3 X2 (by decide)
  have kt : KeepT w (w3.setCell ⟨go, 0, none⟩ (.slice A3 (l.length + 1) c3)) := (((KeepT.below b2).alloc _).grown D2 g3).set_ X3 _ _
  have B3 : Below B w w3 := below_grown ((b2.mono hx.hB).alloc (by have := hx.hB; omega) _) (by simp; have := hx.hB; omega) D2 (Nat.le_refl _) g3
  have rows : OwnSS cellsI w3 B 47 3 1 (.slice A3 (l.length + 1) c3) (l ++ [head]) :=
    OwnSS.app (B := w.heap.size) (w0 := w) (w1 := w2.alloc (.cells #[.slice A2 head.length c2] 47)) (vs' := [.slice A2 head.length c2]) (by decide) hx.rows (Nat.le_refl _) hx.hB (b2.alloc (by omega) _)
      (fun j x hj => by
        have h0 : j = 0 := by have := (List.getElem?_eq_some_iff.1 hj).1; simp at this; omega
        subst h0
        simp at hj
        subst hj
        exact ⟨A2, c2, rfl, o2.alloc _⟩)
      (fun i j u u' hij hu hu' => by
        have h1 := (List.getElem?_eq_some_iff.1 hu).1
        have h2 := (List.getElem?_eq_some_iff.1 hu').1
        simp at h1 h2
        omega)
      rfl g3 (fun vs hv => by rw [own_uniq hv D2]; exact o3)
  refine ⟨rfl, A3, c3, ⟨kt.bx hx.bn (by decide) (by decide), ?_, kt.bx hx.be (by decide) (by decide), ?_, ?_, hx.hgo⟩, B3.setCell hx.hgo _, kt⟩
  · have := X3.set_ 0 (.slice A3 (l.length + 1) c3)
    simpa [growP] using this
  · have := rows.setFar X3 (by decide) (by decide) 0 (.slice A3 (l.length + 1) c3)
    simpa [growP] using this
  · have h1 := B3.size
    have h2 := hx.hB
    simp [World.setCell]
    omega

set_option maxRecDepth 100000 in
set_option maxHeartbeats 3200000 in
theorem i_ext (n : Nat) (hn : n ≤ 4) : ∀ (m : Nat) (A : Option Addr) (c b0 : Nat) (head : List Int) (B gn go ge : Nat) (l : List (List Int)) (A0 : Option Addr) (c0 : Nat) (w : World), w.ownsRow b0 3 1 (.slice A head.length c) head.length (cellsI head) → head.length + m = n → Ext w B n gn go ge l A0 c0 → l.length + (growP n m head).length ≤ 2048 →
    Calls Try.prog 98 #[.slice A head.length c, .pointer (some ⟨gn, 0, none⟩), .pointer (some ⟨go, 0, none⟩), .pointer (some ⟨ge, 0, none⟩)] w (EndExt B n gn go ge (l ++ growP n m head) w)
  | 0, A, c, b0, head, B, gn, go, ge, l, A0, c0, w, h, hm, hx, hl => by
    have H := Lib.hid h
    have HX := Lib.hid hx
    obtain ⟨k, hk⟩ : ∃ k, head.length = k := ⟨_, rfl⟩
    rw [hk] at hm ⊢
    have HK := Lib.hid hk
    obtain rfl : k = n := by omega
    obtain ⟨q, hq⟩ : ∃ q, l.length = q := ⟨_, rfl⟩
    have hl : q ≤ 2048 := by rw [← hq]; omega
    have HQ := Lib.hid hq
    obtain ⟨n0, _⟩ := hx.bn.one
    obtain ⟨o0, o1⟩ := hx.bo.one
    rw [hq] at o0
    have hsz : B ≤ w.heap.size := hx.hB
    have hlt : go < w.heap.size := hx.bo.lt
    clear h hk hx hq
    go_enter Try.func98, Try.ntmps98
    go_wp2_with fail
    obtain ⟨vs0, d1, d2, d3⟩ := HX.out.rows
    rw [HQ.out] at d1
    have D1 := Lib.hid d1
    have OL := Lib.hid (show (w.alloc (.cells #[] 3)).drew.ownsRow w.heap.size 3 1 (.slice (some ⟨w.heap.size, 0, none⟩) 0 0) 0 [] from World.ownsRow_lit (base := w.heap.size) w #[] 0 (Nat.le_refl _) (by simp [maxLen]) rfl)
    have SRC := Lib.hid (show Rd (w.alloc (.cells #[] 3)).drew 1 A k (cellsI head) from by have := ((RdI.own H.out).alloc (.cells #[] 3)).2; rw [HK.out] at this; exact this)
    have hz1 : (Value.int .i64 0).cells.size = 1 := rfl
    have hz2 : (Value.slice none 0 0).cells.size = 1 := rfl
    have BL := Lib.hid (show Below w.heap.size w (w.alloc (.cells #[] 3)).drew from ((Below.refl _ _).alloc (Nat.le_refl _) _).drew)
    clear d1 d2 d3
    have nn := World.new_ne w _ o0
    go_region_law
      (first
        | (refine step_app0 (by rfl) (.tmp 14) (.tmp 15) 47 (by rfl) Try.underlying47 infoInt1 hz1 (by decide) (by simp [Act.eval] <;> rfl) OL.out (by simp [Act.eval] <;> rfl) SRC.out one_cellsI (by omega) (by decide) (by simp) ?_; intro A2 c2 w2 o2 g2; have b2 := below_grown BL.out BL.out.size OL.out (Nat.le_refl _) g2; have k0 := (b2.cell (p := ⟨go, 0, none⟩) hlt).trans o0; have k1 := (b2.frozen (p := ⟨go, 0, none⟩) hlt).trans o1; have D2 := (ownsRow_below D1.out b2).alloc (.cells #[.slice A2 k c2] 47); have X2 := (HX.out.bo.below b2).alloc (.cells #[.slice A2 k c2] 47); have hs2 := b2.size; have k2' := X2.one; rw [HQ.out] at k2'; have k2 := k2'.1)
        | (refine step_app (by rfl) (.tmp 13) (.tmp 17) 54 (by rfl) Try.underlying54 infoIntS hz2 (by decide) (by simp [Act.eval] <;> rfl) D2 (by simp [Act.eval] <;> rfl) (Rd.lit w2 47 #[.slice A2 k c2] 1 1 rfl) (by simp [Value.oneCell']) (by omega) (by decide) (by simp <;> omega) ?_; intro A3 c3 w3 o3 g3; have X3 := kept_app D2 g3 X2 (by decide); have j0' := X3.one; rw [HQ.out] at j0'; have j0 := j0'.1; have j1 := j0'.2))
    all_goals go_wp2_with fail
    all_goals (first | go_ret | go_end0)
    all_goals exact ext_leaf HX.out HK.out HQ.out b2 o2 D1.out o3 g3
  | m + 1, A, c, b0, head, B, gn, go, ge, l, A0, c0, w, h, hm, hx, hl => by
    have H := Lib.hid h
    have HX := Lib.hid hx
    obtain ⟨k, hk⟩ : ∃ k, head.length = k := ⟨_, rfl⟩
    rw [hk] at hm ⊢
    have HK := Lib.hid hk
    have hkn : ((k : Int) == (n : Int)) = false := by simp; omega
    have IH := Lib.hid (i_ext n hn m)
    obtain ⟨R, hR⟩ : ∃ R, l ++ growP n (m + 1) head = R := ⟨_, rfl⟩
    have hRl : R.length ≤ 2048 := by rw [← hR, List.length_append]; exact hl
    have HR : Hid (l ++ growK (growP n m) head 0 n = R) := Lib.hid (by rw [← hR, growP])
    rw [hR]
    obtain ⟨n0, _⟩ := hx.bn.one
    clear h hk hx hR hl
    go_enter Try.func98, Try.ntmps98
    go_wp2_with fail
    clear hkn n0
    go_loopg [5] n (fun r i wr => ∃ (x : Nat) (l' : List (List Int)) (A' : Option Addr) (c' : Nat), x + r = n ∧ i = .int .i64 x ∧ l' ++ growK (growP n m) head x r = R ∧ Ext wr B n gn go ge l' A' c' ∧ Below B w wr ∧ KeepT w wr)
    case atStart => exact ⟨0, l, A0, c0, by omega, rfl, HR.out, HX.out, Below.refl _ _, KeepT.refl _⟩
    case round =>
      obtain ⟨x, l', A', c', hxr, rfl, hl, hx, hb, hkt⟩ := hrel
      have HL := Lib.hid hl
      have HX' := Lib.hid hx
      have HKT := Lib.hid hkt
      have H' := Lib.hid (hkt.own H.out (by decide) (by decide))
      obtain ⟨n0, _⟩ := hx.bn.one
      obtain ⟨e0, _⟩ := hx.be.one
      clear hl hx hkt
      by_cases hlt : x < n
      · have HS := Lib.hid (growK_step (g := growP n m) (head := head) hxr hlt)
        have HRd := Lib.hid (show RdI wr A k head from by have := RdI.own H'.out; rw [HK.out] at this; exact this)
        go_wp2_with fail
        obtain ⟨wo, rfl⟩ : ∃ wo : World, wo = wr := ⟨_, rfl⟩
        go_loop [6, 26] (fun u i => ∃ j : Nat, j ≤ k ∧ i = .int .i64 j ∧ u = .bool (hasI (head.take j) (x : Int))) (fun _ i => k - (intOf i).toNat)
        case atStart => exact ⟨0, by omega, rfl, by simp [hasI]⟩
        case round =>
          obtain ⟨j, hj, rfl, rfl⟩ := hrel
          by_cases hjk : j < k
          · obtain ⟨b, off, y, rfl, hB, hd, cc⟩ := HRd.out.at_ hjk
            have HS2 : Hid (hasI (head.take (j + 1)) (x : Int) = (hasI (head.take j) (x : Int) || y == (x : Int))) := Lib.hid (by rw [take_snoc hd, hasI_snoc])
            clear hd
            cases hu : hasI (head.take j) (x : Int)
            · by_cases hy : y = (x : Int)
              · have hy' : ((x : Int) == y) = true := by simp [hy]
                have HY := Lib.hid hy
                clear hy
                go_wp2_with fail
                go_round
                case rel => exact ⟨j + 1, by omega, by go_num, by rw [HS2.out, HY.out]; simp⟩
                case measure => simp [intOf]; omega
              · have hy' : ((x : Int) == y) = false := by simp; omega
                have HY : Hid ((y == (x : Int)) = false) := Lib.hid (by simpa using hy)
                clear hy
                go_wp2_with fail
                go_round
                case rel => exact ⟨j + 1, by omega, by go_num, by rw [HS2.out, HY.out, hu]; rfl⟩
                case measure => simp [intOf]; omega
            · go_wp2_with fail
              go_round
              case rel => exact ⟨j + 1, by omega, by go_num, by rw [HS2.out, hu]; rfl⟩
              case measure => simp [intOf]; omega
          · obtain rfl : j = k := by omega
            have hht : head.take j = head := List.take_of_length_le (by have := HK.out; omega)
            rw [hht]
            clear hht
            cases hu : hasI head (x : Int)
            · have HU := Lib.hid hu
              clear hu
              go_wp2_with fail
              have HHL := Lib.hid (show (head ++ [(x : Int)]).length = j + 1 from by rw [List.length_append, HK.out]; rfl)
              have hlen2 : l'.length + (growP n m (head ++ [(x : Int)])).length ≤ 2048 := by
                have h1 := HL.out
                rw [HS.out, if_neg (by rw [HU.out]; simp)] at h1
                rw [← h1] at hRl
                simp only [List.length_append] at hRl
                omega
              have HLN := Lib.hid hlen2
              have OLA := Lib.hid (show (wo.alloc (.cells #[] 3)).drew.ownsRow wo.heap.size 3 1 (.slice (some ⟨wo.heap.size, 0, none⟩) 0 0) 0 [] from World.ownsRow_lit (base := wo.heap.size) wo #[] 0 (Nat.le_refl _) (by simp [maxLen]) rfl)
              have SRCA := Lib.hid (show Rd (wo.alloc (.cells #[] 3)).drew 1 A j (cellsI head) from (HRd.out.alloc (.cells #[] 3)).2)
              have BLA := Lib.hid (show Below wo.heap.size wo (wo.alloc (.cells #[] 3)).drew from ((Below.refl _ _).alloc (Nat.le_refl _) _).drew)
              have OLB := Lib.hid (show ((wo.alloc (.cells #[] 3)).alloc (.cells #[.int .i64 (x : Int)] 3)).drew.ownsRow wo.heap.size 3 1 (.slice (some ⟨wo.heap.size, 0, none⟩) 0 0) 0 [] from (World.ownsRow_lit (base := wo.heap.size) wo #[] 0 (Nat.le_refl _) (by simp [maxLen]) rfl).alloc _)
              have SRCB := Lib.hid (show Rd ((wo.alloc (.cells #[] 3)).alloc (.cells #[.int .i64 (x : Int)] 3)).drew 1 A j (cellsI head) from ((HRd.out.alloc (.cells #[] 3)).alloc (.cells #[.int .i64 (x : Int)] 3)).2)
              have BLB := Lib.hid (show Below wo.heap.size wo ((wo.alloc (.cells #[] 3)).alloc (.cells #[.int .i64 (x : Int)] 3)).drew from (((Below.refl _ _).alloc (Nat.le_refl _) _).alloc (by simp) _).drew)
              have OLC := Lib.hid (show ((wo.alloc (.cells #[.int .i64 (x : Int)] 3)).alloc (.cells #[] 3)).drew.ownsRow wo.heap.size 3 1 (.slice (some ⟨wo.heap.size + 1, 0, none⟩) 0 0) 0 [] from by have := World.ownsRow_lit (e := 3) (size := 1) (base := wo.heap.size) (wo.alloc (.cells #[.int .i64 (x : Int)] 3)) #[] 0 (by simp) (by simp [maxLen]) rfl; rw [World.size_alloc] at this; exact this)
              have SRCC := Lib.hid (show Rd ((wo.alloc (.cells #[.int .i64 (x : Int)] 3)).alloc (.cells #[] 3)).drew 1 A j (cellsI head) from ((HRd.out.alloc (.cells #[.int .i64 (x : Int)] 3)).alloc (.cells #[] 3)).2)
              have BLC := Lib.hid (show Below wo.heap.size wo ((wo.alloc (.cells #[.int .i64 (x : Int)] 3)).alloc (.cells #[] 3)).drew from (((Below.refl _ _).alloc (Nat.le_refl _) _).alloc (by simp) _).drew)
              have RBB := Lib.hid (show Rd ((wo.alloc (.cells #[] 3)).alloc (.cells #[.int .i64 (x : Int)] 3)).drew 1 (some ⟨wo.heap.size + 1, 0, none⟩) 1 [.int .i64 (x : Int)] from by have := Rd.lit (wo.alloc (.cells #[] 3)) 3 #[.int .i64 (x : Int)] 1 1 rfl; rw [World.size_alloc] at this; exact this)
              have RCC := Lib.hid (show Rd ((wo.alloc (.cells #[.int .i64 (x : Int)] 3)).alloc (.cells #[] 3)).drew 1 (some ⟨wo.heap.size, 0, none⟩) 1 [.int .i64 (x : Int)] from (Rd.lit wo 3 #[.int .i64 (x : Int)] 1 1 rfl).alloc _)
              have hz1 : (Value.int .i64 0).cells.size = 1 := rfl
              have nn := World.new_ne wo _ e0
              have hge : ge < wo.heap.size := HX'.out.be.lt
              clear hlen2
              have CALL := Lib.hid (fun (A3 : Option Addr) (c3 : Nat) (w3 : World) (o3 : w3.ownsRow wo.heap.size 3 1 (.slice A3 (j + 1) c3) (j + 1) (cellsI head ++ [Value.int .i64 (x : Int)])) (b3 : Below wo.heap.size wo w3) =>
                show Calls Try.prog 98 #[.slice A3 (j + 1) c3, .pointer (some ⟨gn, 0, none⟩), .pointer (some ⟨go, 0, none⟩), .pointer (some ⟨ge, 0, none⟩)] w3 (EndExt B n gn go ge (l' ++ growP n m (head ++ [(x : Int)])) w3) from by
                  have ih := IH.out A3 c3 wo.heap.size (head ++ [(x : Int)]) B gn go ge l' A' c' w3 (by rw [HHL.out, cellsI_append]; exact o3) (by rw [HHL.out]; omega) (HX'.out.below b3) HLN.out
                  rw [HHL.out] at ih
                  exact ih)
              go_region_held3 (fun w' => w'.cell? ⟨ge, 0, none⟩ = some (.func (.func 98) #[] #[.pointer (some ⟨gn, 0, none⟩), .pointer (some ⟨go, 0, none⟩), .pointer (some ⟨ge, 0, none⟩)]))
                (first | go_keep | exact k0 | exact k1 | exact k2)
                (first
                  | (refine step_app0 (by rfl) (.tmp 40) (.tmp 41) 47 (by rfl) Try.underlying47 infoInt1 hz1 (by decide) (by simp [Act.eval] <;> rfl) OLA.out (by simp [Act.eval] <;> rfl) SRCA.out one_cellsI (by omega) (by decide) (by simp <;> omega) ?_; intro A2 c2 w2 o2 g2; have b2 := below_grown BLA.out BLA.out.size OLA.out (Nat.le_refl _) g2; have k0 := (b2.cell (p := ⟨ge, 0, none⟩) hge).trans e0; have hs2 := b2.size; have OA := o2.alloc (.cells #[.int .i64 (x : Int)] 3))
                  | (refine step_app0 (by rfl) (.tmp 40) (.tmp 41) 47 (by rfl) Try.underlying47 infoInt1 hz1 (by decide) (by simp [Act.eval] <;> rfl) OLB.out (by simp [Act.eval] <;> rfl) SRCB.out one_cellsI (by omega) (by decide) (by simp <;> omega) ?_; intro A2 c2 w2 o2 g2; have b2 := below_grown BLB.out BLB.out.size OLB.out (Nat.le_refl _) g2; have k0 := (b2.cell (p := ⟨ge, 0, none⟩) hge).trans e0; have hs2 := b2.size; have OBC := o2; have RBC := Rd.grown RBB.out g2 (fun b off e => by injection e with e; injection e with e _; subst e; simp [Value.ownBlock]))
                  | (refine step_app0 (by rfl) (.tmp 40) (.tmp 41) 47 (by rfl) Try.underlying47 infoInt1 hz1 (by decide) (by simp [Act.eval] <;> rfl) OLC.out (by simp [Act.eval] <;> rfl) SRCC.out one_cellsI (by omega) (by decide) (by simp <;> omega) ?_; intro A2 c2 w2 o2 g2; have b2 := below_grown BLC.out BLC.out.size OLC.out (Nat.le_refl _) g2; have k0 := (b2.cell (p := ⟨ge, 0, none⟩) hge).trans e0; have hs2 := b2.size; have OBC := o2; have RBC := Rd.grown RCC.out g2 (fun b off e => by injection e with e; injection e with e _; subst e; simp [Value.ownBlock]))
                  | (refine step_app (by rfl) (.tmp 42) (.tmp 44) 47 (by rfl) Try.underlying47 infoInt1 hz1 (by decide) (by simp [Act.eval] <;> rfl) OA (by simp [Act.eval] <;> rfl) (Rd.lit w2 3 #[.int .i64 (x : Int)] 1 1 rfl) (by simp [Value.oneCell']) (by omega) (by decide) (by simp <;> omega) ?_; intro A3 c3 w3 o3 g3; have b3 := below_grown (b2.alloc hs2 (.cells #[.int .i64 (x : Int)] 3)) (by simp <;> omega) OA (Nat.le_refl _) g3; have k1 := (b3.cell (p := ⟨ge, 0, none⟩) hge).trans e0)
                  | (refine step_app (by rfl) (.tmp 42) (.tmp 44) 47 (by rfl) Try.underlying47 infoInt1 hz1 (by decide) (by simp [Act.eval] <;> rfl) OBC (by simp [Act.eval] <;> rfl) RBC (by simp [Value.oneCell']) (by omega) (by decide) hs2 ?_; intro A3 c3 w3 o3 g3; have b3 := below_grown b2 hs2 OBC (Nat.le_refl _) g3; have k1 := (b3.cell (p := ⟨ge, 0, none⟩) hge).trans e0)
                  | (go_at_call 98; (with_reducible refine (CALL.out A3 c3 w3 o3 b3).mono ?_); rintro e w4 ⟨rfl, A4, c4, hx4, b4, kt4⟩; have k2 := hx4.be.one.1)
                  | fail)
              all_goals go_wp2_with fail
              all_goals go_roundg (gk - 1)
              all_goals first
                | omega
                | exact ⟨x + 1, l' ++ growP n m (head ++ [(x : Int)]), A4, c4, by omega, by go_num, by rw [← HL.out, HS.out, if_neg (by rw [HU.out]; simp), List.append_assoc], hx4, hb.trans ((b3.mono HX'.out.hB).trans b4), HKT.out.trans ((KeepT.below b3).trans kt4)⟩
            · have HU := Lib.hid hu
              clear hu
              go_wp2_with fail
              go_roundg (gk - 1)
              case measure => omega
              case rel => exact ⟨x + 1, l', A', c', by omega, by go_num, by rw [← HL.out, HS.out, if_pos HU.out, List.nil_append], HX'.out, hb, HKT.out⟩
      · go_wp2_with fail
        (first | go_ret | go_end0)
        have hR : l' = R := by
          have h1 := HL.out
          have h2 : gk = 0 := by omega
          rw [h2, growK, List.append_nil] at h1
          exact h1
        subst hR
        exact ⟨rfl, A', c', HX'.out, hb, HKT.out⟩
end Go.Proofs.YtgnallcfahpjmaaR
