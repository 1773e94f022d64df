/- Contract of ApplyGate (spec): where the plain application succeeds. States of 2, 4, 8 or 16 numbers. -/
import Derived.Test.YtibhikngiceeeaaStG
import Derived.Test.YtibhikngiceeeaaOkGate
namespace Go.Proofs.Ytibhikngiceeeaa
open Go.RowKit
set_option linter.unusedVariables false

theorem okQ_bdm {ar m : Int} (hm : 0 ≤ m) : ∀ (l seen : List Int), okQ ar m seen l = true → ∀ x ∈ l, 0 ≤ x ∧ x ≤ m
  | [], _, _ => by simp
  | y :: r, seen, h => by
    rw [okQ] at h
    by_cases hb : badQ ar m seen.length seen y = true
    · rw [if_pos hb] at h; cases h
    · rw [if_neg hb] at h
      intro x hx
      rcases List.mem_cons.1 hx with rfl | hx
      · unfold badQ at hb
        by_cases hlt : (seen.length : Int) < ar
        · rw [if_pos hlt] at hb
          rcases inB_casesQ x 0 m with ⟨_, h1⟩ | ⟨h1, _⟩
          · exact h1
          · rw [h1] at hb; simp at hb
        · rw [if_neg hlt] at hb
          have : x = 0 := by simpa using hb
          omega
      · exact okQ_bdm hm r _ h x hx
theorem okG_rng {g : Gt} {q : Nat} (h1 : 1 ≤ q) (h4 : q ≤ 4) (h : okG g.k g.a g.b g.c q = true) : ∃ a b c : Nat, g.a = a ∧ g.b = b ∧ g.c = c ∧ (a < q ∧ b < q ∧ c < q) ∧ (1 ≤ g.k ∧ g.k ≤ 12) := by
  unfold okG at h
  simp only [Bool.and_eq_true, decide_eq_true_eq] at h
  have hb := okQ_bdm (by omega) _ _ h.2.2
  have ha := hb g.a (by simp)
  have hbb := hb g.b (by simp)
  have hcc := hb g.c (by simp)
  refine ⟨g.a.toNat, g.b.toNat, g.c.toNat, by omega, by omega, by omega, ⟨by omega, by omega, by omega⟩, ?_⟩
  rcases arity_cases g.k with ⟨h1, h2, h3⟩ | ⟨h1, h2, h3⟩ | ⟨h1, h3⟩ | ⟨h1, h3⟩ <;> omega
theorem cntQ_pow {q : Nat} (h1 : 1 ≤ q) (h4 : q ≤ 4) : cntQ (2 ^ q) = q := by
  obtain rfl | rfl | rfl | rfl : q = 1 ∨ q = 2 ∨ q = 3 ∨ q = 4 := by omega
  all_goals rfl
theorem appG_some {g : Gt} {vs out : List Dw} {q : Nat} (h1 : 1 ≤ q) (h4 : q ≤ 4) (hl : vs.length = 2 ^ q) (h : appG g vs = some out) : (∀ x ∈ vs, okD x = true) ∧ okG g.k g.a g.b g.c q = true ∧ appL g 0 vs (List.replicate (2 ^ q) Dw.zero) = some out := by
  unfold appG at h
  rw [hl, cntQ_pow h1 h4] at h
  split at h
  · rename_i h1
    simp only [Bool.and_eq_true, okS, List.all_eq_true] at h1
    exact ⟨h1.1.1, h1.2, h⟩
  · cases h
theorem putD_len {x : Dw} {o o' : List Dw} {t : Nat × Dw} (h : putD x o t = some o') : o'.length = o.length := by
  unfold putD at h
  cases hm : mulD x t.2 with
  | none => rw [hm] at h; cases h
  | some y =>
    rw [hm] at h
    simp only at h
    cases ha : addD (o.getD t.1 Dw.zero) y with
    | none => rw [ha] at h; cases h
    | some z =>
      rw [ha] at h
      injection h with h
      rw [← h, List.length_set]
theorem putD_some {x : Dw} {o o' : List Dw} {t : Nat} {ty : Dw} (h : putD x o (t, ty) = some o') : ∃ m z, mulD x ty = some m ∧ addD (o.getD t Dw.zero) m = some z ∧ o' = o.set t z := by
  unfold putD at h
  cases hm : mulD x ty with
  | none => rw [hm] at h; cases h
  | some y =>
    rw [hm] at h
    simp only at h
    cases ha : addD (o.getD t Dw.zero) y with
    | none => rw [ha] at h; cases h
    | some z =>
      rw [ha] at h
      injection h with h
      exact ⟨y, z, rfl, ha, h.symm⟩
theorem RdD.get {w : World} {b off n k : Nat} {vs r : List Dw} {x : Dw} (h : RdD w (some ⟨b, off, none⟩) n vs) (hk : k < n) (hd : vs.drop k = x :: r) : b < w.heap.size ∧ w.cell? ⟨b, off + k * 5, none⟩ = some (.int .i64 x.n.a) ∧ w.cell? ⟨b, off + k * 5 + 1, none⟩ = some (.int .i64 x.n.b) ∧ w.cell? ⟨b, off + k * 5 + 2, none⟩ = some (.int .i64 x.n.c) ∧ w.cell? ⟨b, off + k * 5 + 3, none⟩ = some (.int .i64 x.n.d) ∧ w.cell? ⟨b, off + k * 5 + 4, none⟩ = some (.int .i64 x.e) := by
  obtain ⟨b', off', x', e, hb, hd', c⟩ := h.at_ hk
  injection e with e
  injection e with e1 e2
  subst e1 e2
  rw [hd] at hd'
  injection hd' with e3 _
  subst e3
  exact ⟨hb, c⟩
theorem bx5 {w : World} {g : Nat} {t : TypeId} {a b c d e : Value} (h : Bx w g t #[a, b, c, d, e]) : w.cell? ⟨g, 0, none⟩ = some a ∧ w.cell? ⟨g, 1, none⟩ = some b ∧ w.cell? ⟨g, 2, none⟩ = some c ∧ w.cell? ⟨g, 3, none⟩ = some d ∧ w.cell? ⟨g, 4, none⟩ = some e ∧ w.frozen? ⟨g, 0, none⟩ = false ∧ w.frozen? ⟨g, 1, none⟩ = false ∧ w.frozen? ⟨g, 2, none⟩ = false ∧ w.frozen? ⟨g, 3, none⟩ = false ∧ w.frozen? ⟨g, 4, none⟩ = false := ⟨h.cell 0, h.cell 1, h.cell 2, h.cell 3, h.cell 4, h.free 0, h.free 1, h.free 2, h.free 3, h.free 4⟩
theorem set5b {B : Nat} {a w : World} {g : Nat} {u0 u1 u2 u3 u4 : Value} (h : Below B a w) (hg : B ≤ g) : Below B a (((((w.setCell ⟨g, 0, none⟩ u0).setCell ⟨g, 1, none⟩ u1).setCell ⟨g, 2, none⟩ u2).setCell ⟨g, 3, none⟩ u3).setCell ⟨g, 4, none⟩ u4) := ((((h.setCell hg _).setCell hg _).setCell hg _).setCell hg _).setCell hg _
theorem bx5_set {w : World} {g : Nat} {t : TypeId} {a b c d e a' b' c' d' e' : Value} (h : Bx w g t #[a, b, c, d, e]) : Bx (((((w.setCell ⟨g, 0, none⟩ a').setCell ⟨g, 1, none⟩ b').setCell ⟨g, 2, none⟩ c').setCell ⟨g, 3, none⟩ d').setCell ⟨g, 4, none⟩ e') g t #[a', b', c', d', e'] := ((((h.set_ 0 a').set_ 1 b').set_ 2 c').set_ 3 d').set_ 4 e'
theorem RdSn.store {w : World} {A : Option Addr} {n R : Nat} {ls : List (Nat × Dw)} (h : RdSn w A n ls) (hne : ∀ b off, A = some ⟨b, off, none⟩ → b ≠ R) (z : Dw) (o : Nat) : RdSn (stAt w R o z).drew A n ls :=
  ⟨h.1, (((((h.2.setCell (p := ⟨R, o, none⟩) _ hne).setCell (p := ⟨R, o + 1, none⟩) _ hne).setCell (p := ⟨R, o + 2, none⟩) _ hne).setCell (p := ⟨R, o + 3, none⟩) _ hne).setCell (p := ⟨R, o + 4, none⟩) _ hne).drew⟩
theorem flip_pow_all : ∀ q : Fin 5, ∀ i : Fin 16, ∀ p : Fin 4, (i : Nat) < 2 ^ (q : Nat) → (p : Nat) < q → flipN i p < 2 ^ (q : Nat) := by decide +kernel
theorem flip_pow {i p q : Nat} (h4 : q ≤ 4) (hi : i < 2 ^ q) (hp : p < q) : flipN i p < 2 ^ q := by
  have h16 : 2 ^ q ≤ 16 := Nat.pow_le_pow_right (by omega) h4
  exact flip_pow_all ⟨q, by omega⟩ ⟨i, by omega⟩ ⟨p, by omega⟩ hi hp
theorem mem_ite {α : Type} {c : Prop} [Decidable c] {a b : List α} {P : α → Prop} (ha : ∀ t ∈ a, P t) (hb : ∀ t ∈ b, P t) : ∀ t ∈ (if c then a else b), P t := by split <;> assumption
theorem goes_lt {g : Gt} {i q a b c : Nat} (h4 : q ≤ 4) (hi : i < 2 ^ q) (ea : g.a = a) (eb : g.b = b) (ec : g.c = c) (hr : a < q ∧ b < q ∧ c < q) : ∀ t ∈ goes g i, t.1 < 2 ^ q := by
  have f1 := flip_pow h4 hi hr.1
  have f2 := flip_pow h4 hi hr.2.1
  have f3 := flip_pow h4 hi hr.2.2
  have f4 := flip_pow h4 f1 hr.2.1
  unfold goes
  rw [ea, eb, ec]
  simp only [Int.toNat_natCast]
  exact mem_ite (by intro t ht; (first | unfold phG at ht | unfold flG at ht | skip); simp only [List.mem_cons, List.not_mem_nil, or_false] at ht; subst ht; dsimp only; first | assumption | (split <;> assumption)) (mem_ite (by intro t ht; (first | unfold phG at ht | unfold flG at ht | skip); simp only [List.mem_cons, List.not_mem_nil, or_false] at ht; subst ht; dsimp only; first | assumption | (split <;> assumption)) (mem_ite (by intro t ht; (first | unfold phG at ht | unfold flG at ht | skip); simp only [List.mem_cons, List.not_mem_nil, or_false] at ht; subst ht; dsimp only; first | assumption | (split <;> assumption)) (mem_ite (by intro t ht; (first | unfold phG at ht | unfold flG at ht | skip); simp only [List.mem_cons, List.not_mem_nil, or_false] at ht; subst ht; dsimp only; first | assumption | (split <;> assumption)) (mem_ite (by intro t ht; (first | unfold phG at ht | unfold flG at ht | skip); simp only [List.mem_cons, List.not_mem_nil, or_false] at ht; subst ht; dsimp only; first | assumption | (split <;> assumption)) (mem_ite (by intro t ht; (first | unfold phG at ht | unfold flG at ht | skip); simp only [List.mem_cons, List.not_mem_nil, or_false] at ht; subst ht; dsimp only; first | assumption | (split <;> assumption)) (mem_ite (by intro t ht; (first | unfold phG at ht | unfold flG at ht | skip); simp only [List.mem_cons, List.not_mem_nil, or_false] at ht; subst ht; dsimp only; first | assumption | (split <;> assumption)) (mem_ite (by intro t ht; (first | unfold phG at ht | unfold flG at ht | skip); simp only [List.mem_cons, List.not_mem_nil, or_false] at ht; subst ht; dsimp only; first | assumption | (split <;> assumption)) (mem_ite (by intro t ht; (first | unfold phG at ht | unfold flG at ht | skip); simp only [List.mem_cons, List.not_mem_nil, or_false] at ht; subst ht; dsimp only; first | assumption | (split <;> assumption)) (mem_ite (by intro t ht; (first | unfold phG at ht | unfold flG at ht | skip); simp only [List.mem_cons, List.not_mem_nil, or_false] at ht; subst ht; dsimp only; first | assumption | (split <;> assumption)) (mem_ite (by intro t ht; (first | unfold phG at ht | unfold flG at ht | skip); simp only [List.mem_cons, List.not_mem_nil, or_false] at ht; subst ht; dsimp only; first | assumption | (split <;> assumption)) ((by intro t ht; simp only [List.mem_cons, List.not_mem_nil, or_false] at ht; rcases ht with rfl | rfl <;> (dsimp only; split <;> assumption)))))))))))))
theorem len_ite {α : Type} {c : Prop} [Decidable c] {a b : List α} {n : Nat} (ha : a.length ≤ n) (hb : b.length ≤ n) : (if c then a else b).length ≤ n := by split <;> assumption
theorem goes_len (g : Gt) (i : Nat) : (goes g i).length ≤ 2 := by
  unfold goes
  exact len_ite (by first | (unfold phG; simp) | (unfold flG; simp) | simp) (len_ite (by first | (unfold phG; simp) | (unfold flG; simp) | simp) (len_ite (by first | (unfold phG; simp) | (unfold flG; simp) | simp) (len_ite (by first | (unfold phG; simp) | (unfold flG; simp) | simp) (len_ite (by first | (unfold phG; simp) | (unfold flG; simp) | simp) (len_ite (by first | (unfold phG; simp) | (unfold flG; simp) | simp) (len_ite (by first | (unfold phG; simp) | (unfold flG; simp) | simp) (len_ite (by first | (unfold phG; simp) | (unfold flG; simp) | simp) (len_ite (by first | (unfold phG; simp) | (unfold flG; simp) | simp) (len_ite (by first | (unfold phG; simp) | (unfold flG; simp) | simp) (len_ite (by first | (unfold phG; simp) | (unfold flG; simp) | simp) (by simp)))))))))))
theorem dz_t {x : Dw} (h1 : x.n.a = 0) (h2 : x.n.b = 0) (h3 : x.n.c = 0) (h4 : x.n.d = 0) (h5 : x.e = 0) : true = decide (x = Dw.zero) := by
  obtain ⟨⟨a, b, c, d⟩, e⟩ := x
  simp only at h1 h2 h3 h4 h5
  subst h1 h2 h3 h4 h5
  rfl
theorem dz_f {x : Dw} (h : ¬ x.n.a = 0 ∨ ¬ x.n.b = 0 ∨ ¬ x.n.c = 0 ∨ ¬ x.n.d = 0 ∨ ¬ x.e = 0) : false = decide (x = Dw.zero) := by
  refine (decide_eq_false fun e => ?_).symm
  subst e
  simp [Dw.zero, Zw.zero] at h
/-- A gate's box, the row that is filled, the frame. -/
def GSt (w : World) (g : Gt) (R n : Nat) (cur : List Dw) (wr : World) : Prop :=
  Bx wr w.heap.size 55 #[.int .i64 g.k, .int .i64 g.a, .int .i64 g.b, .int .i64 g.c] ∧ wr.ownsRow (w.heap.size + 1) 83 5 (.slice (some ⟨R, 0, none⟩) n n) n (cellsD cur) ∧ Below w.heap.size w wr
theorem GSt.below {w wr w' : World} {g : Gt} {R n : Nat} {cur : List Dw} (h : GSt w g R n cur wr) (hb : Below wr.heap.size wr w') : GSt w g R n cur w' := ⟨h.1.below hb, ownsRow_below h.2.1 hb, below_trans h.2.2 hb⟩
theorem GSt.cells {w wr : World} {g : Gt} {R n : Nat} {cur : List Dw} (h : GSt w g R n cur wr) : wr.cell? ⟨w.heap.size, 0, none⟩ = some (.int .i64 g.k) ∧ wr.cell? ⟨w.heap.size, 1, none⟩ = some (.int .i64 g.a) ∧ wr.cell? ⟨w.heap.size, 2, none⟩ = some (.int .i64 g.b) ∧ wr.cell? ⟨w.heap.size, 3, none⟩ = some (.int .i64 g.c) := ⟨h.1.cell 0, h.1.cell 1, h.1.cell 2, h.1.cell 3⟩
theorem GSt.store {w wr : World} {g : Gt} {R n : Nat} {cur : List Dw} (h : GSt w g R n cur wr) {k : Nat} (hk : k < cur.length) (hR : w.heap.size + 1 ≤ R) (z : Dw) : GSt w g R n (cur.set k z) (stAt wr R (k * 5) z).drew := by
  have hne : w.heap.size ≠ R := by omega
  exact ⟨(((((h.1.far hne _).far hne _).far hne _).far hne _).far hne _).drew, ownsRow_drew (own_stAt h.2.1 hk z), (below_stAt h.2.2 (by omega) z).drew⟩
/-- A state and a word whether it went well. -/
def RetDB (n : Nat) (vs : List Dw) (w : World) (e : Ending) (w' : World) : Prop :=
  ∃ A c, e = .returned (.tuple #[.slice A n c, .bool true]) ∧ w'.ownsRow w.heap.size 83 5 (.slice A n c) n (cellsD vs) ∧ Below w.heap.size w w'

set_option maxRecDepth 100000 in
set_option maxHeartbeats 6400000 in
theorem s_ApplyG (g : Gt) (A : Option Addr) (n cap q : Nat) (vs out : List Dw) (w : World) (h : RdD w A n vs) (h1 : 1 ≤ q) (h4 : q ≤ 4) (hn : n = 2 ^ q) (ho : appG g vs = some out) : Calls Try.prog 131 #[.agg #[.int .i64 g.k, .int .i64 g.a, .int .i64 g.b, .int .i64 g.c], .slice A n cap] w (RetDB n out w) := by
  obtain ⟨hv, hg, hl⟩ := appG_some h1 h4 (by rw [h.1, hn]) ho
  rw [← hn] at hl
  have h16 : n ≤ 16 ∧ 2 ≤ n := by rw [hn]; exact pow_16 h1 h4
  have H := Lib.hid h
  have HN := Lib.hid hn
  have HV := Lib.hid hv
  have HG := Lib.hid hg
  have HL := Lib.hid hl
  have hmk := run_makeN (P := Try.prog) Try.underlying79 infoDOmega n (by omega) (by omega)
  have X0 := Lib.hid (show Bx (w.alloc (.cells #[.int .i64 g.k, .int .i64 g.a, .int .i64 g.b, .int .i64 g.c] 55)) w.heap.size 55 #[.int .i64 g.k, .int .i64 g.a, .int .i64 g.b, .int .i64 g.c] from Bx.new w _ _)
  have B0 := Lib.hid (show Below w.heap.size w (w.alloc (.cells #[.int .i64 g.k, .int .i64 g.a, .int .i64 g.b, .int .i64 g.c] 55)) from (Below.refl _ _).alloc (Nat.le_refl _) _)
  clear h hn hv hg hl ho
  go_enter Try.func131, Try.ntmps131
  go_upto_region 1 with fail
  go_cut [23] (fun v wx => v = .bool false ∧ Bx wx w.heap.size 55 #[.int .i64 g.k, .int .i64 g.a, .int .i64 g.b, .int .i64 g.c] ∧ Below w.heap.size w wx)
  case first =>
    have XD := X0.out.drew
    have BD := B0.out.drew
    obtain ⟨x0, x1, x2, x3, _⟩ := XD.four
    have RD := H.out.below BD
    go_region_held3 (fun w' => w'.cell? ⟨w.heap.size, 0, none⟩ = some (.int .i64 g.k) ∧ w'.cell? ⟨w.heap.size, 1, none⟩ = some (.int .i64 g.a) ∧ w'.cell? ⟨w.heap.size, 2, none⟩ = some (.int .i64 g.b) ∧ w'.cell? ⟨w.heap.size, 3, none⟩ = some (.int .i64 g.c))
      (first | exact ⟨X2.cell 0, X2.cell 1, X2.cell 2, X2.cell 3⟩ | exact ⟨X1.cell 0, X1.cell 1, X1.cell 2, X1.cell 3⟩ | go_keep)
      (first
        | (go_at_call 129; refine (s_IsState _ n _ q vs _ RD h1 h4 HN.out HV.out).mono ?_; rintro e w1 ⟨rfl, b1⟩; have X1 := XD.below b1; have B1 := BD.trans (b1.mono (Below.size BD)))
        | (go_at_call 159; refine (s_QCount _ n _ q _ h1 h4 HN.out).mono ?_; rintro e w1 ⟨rfl, rfl⟩)
        | (go_at_call 30; refine (s_IsValidGate _ _ _ _ _ _).mono ?_; rintro e w2 ⟨rfl, b2⟩; rw [HG.out]; have X2 := X1.below b2; have B2 := B1.trans (b2.mono (Below.size B1))))
    all_goals go_wp2_with fail
    all_goals go_meet
    all_goals exact ⟨by simp, X2, B2⟩
  case rest =>
    obtain ⟨rfl, xb, bb⟩ := hcut
    obtain ⟨w0, rfl⟩ : ∃ w0, w0 = wc := ⟨_, rfl⟩
    have hs : w.heap.size + 1 ≤ w0.heap.size := xb.lt
    have S1 := Lib.hid (show GSt w g w0.heap.size n (List.replicate n Dw.zero) (w0.alloc (.cells (madeCells (Value.agg #[.int .i64 0, .int .i64 0, .int .i64 0, .int .i64 0, .int .i64 0]).cells (n * 5)) 83)) from ⟨xb.alloc _, ownsRow_base (own_made w0 h1 h4 HN.out) hs, bb.alloc bb.size _⟩)
    clear xb bb X0 B0
    go_wp2_with fail
    go_loopg [7] n (fun r v wr => ∃ (i : Nat) (cur : List Dw), i + r = n ∧ v = .int .i64 i ∧ cur.length = n ∧ appL g i (vs.drop i) cur = some out ∧ GSt w g w0.heap.size n cur wr)
    case atStart => exact ⟨0, List.replicate n Dw.zero, by omega, rfl, by simp, HL.out, S1.out⟩
    case round =>
      obtain ⟨i, cur, hi, rfl, hcl, hap, hst⟩ := hrel
      have HAP := Lib.hid hap
      have HS := Lib.hid hst
      have HCL := Lib.hid hcl
      clear hap hst hcl S1 HL hmk
      obtain ⟨g0, g1, g2, g3⟩ := HS.out.cells
      by_cases hlt : i < n
      · obtain ⟨b, off, x, rfl, hB, hd, c0, c1, c2, c3, c4⟩ := (H.out.below HS.out.2.2).at_ hlt
        have hi0 : (0 : Int) ≤ (i : Int) := by omega
        have hi1 : (i : Int) < (n : Int) := by omega
        have HD := Lib.hid hd
        clear hd
        go_upto_region 7 with fail
        go_cut [39] (fun v wx => v = .bool (decide (x = Dw.zero)) ∧ wr = wx)
        case first =>
          go_wp2_with fail
          all_goals go_meet
          all_goals first
            | exact ⟨congrArg Value.bool (dz_t (by assumption) (by assumption) (by assumption) (by assumption) (by assumption)), rfl⟩
            | exact ⟨congrArg Value.bool (dz_f (.inl (by assumption))), rfl⟩
            | exact ⟨congrArg Value.bool (dz_f (.inr (.inl (by assumption)))), rfl⟩
            | exact ⟨congrArg Value.bool (dz_f (.inr (.inr (.inl (by assumption))))), rfl⟩
            | exact ⟨congrArg Value.bool (dz_f (.inr (.inr (.inr (.inl (by assumption)))))), rfl⟩
            | exact ⟨congrArg Value.bool (dz_f (.inr (.inr (.inr (.inr (by assumption)))))), rfl⟩
        case rest =>
          obtain ⟨rfl, rfl⟩ := hcut
          by_cases hz : x = Dw.zero
          · rw [decide_eq_true hz]
            have e := HAP.out
            rw [HD.out, appL, if_pos hz] at e
            have HAP2 := Lib.hid e
            clear e HAP hz c0 c1 c2 c3 c4
            go_wp2_with fail
            go_roundg (gk - 1)
            case measure => omega
            case rel => exact ⟨i + 1, cur, by omega, by go_num, HCL.out, HAP2.out, HS.out⟩
          · rw [decide_eq_false hz]
            have e := HAP.out
            rw [HD.out, appL, if_neg hz] at e
            obtain ⟨cur2, hp2, ha2⟩ : ∃ c2, putAll x (goes g i) cur = some c2 ∧ appL g (i + 1) (vs.drop (i + 1)) c2 = some out := by
              cases hq : putAll x (goes g i) cur with
              | none => rw [hq] at e; cases e
              | some o => rw [hq] at e; exact ⟨o, rfl, e⟩
            obtain ⟨p, qb, qc, ea, eb, ec, hr, hk12⟩ := okG_rng h1 h4 HG.out
            have hgl := goes_lt h4 (by rw [← HN.out]; exact hlt) ea eb ec hr
            obtain ⟨gs, hgs⟩ : ∃ l, goes g i = l := ⟨_, rfl⟩
            obtain ⟨L, hL⟩ : ∃ L, gs.length = L := ⟨_, rfl⟩
            have hL2 : L ≤ 2 := by rw [← hL, ← hgs]; exact goes_len g i
            rw [hgs] at hp2 hgl
            rw [← HN.out] at hgl
            have HP2 := Lib.hid hp2
            have HA2 := Lib.hid ha2
            have HGL := Lib.hid hgl
            have HGS := Lib.hid hgs
            have HLL := Lib.hid hL
            have EA := Lib.hid ea
            have EB := Lib.hid eb
            have EC := Lib.hid ec
            clear e HAP hz c0 c1 c2 c3 c4 hp2 ha2 hgl hgs hL ea eb ec
            have hRlt := (HS.out.2.1.lt w0.heap.size rfl).2
            go_wp2_with fail
            refine (s_l10Goes g p qb qc i _ EA.out EB.out EC.out (by omega) (by omega) (by omega) (by omega) hk12).mono ?_
            rintro e w5 ⟨A5, c5, rfl, o5, b5⟩
            rw [HGS.out] at o5 ⊢
            rw [HLL.out] at o5 ⊢
            have S5 := Lib.hid (HS.out.below b5)
            have R5 := Lib.hid (RdSn.own o5)
            have NE := Lib.hid (show ∀ b off, A5 = some ⟨b, off, none⟩ → b ≠ w0.heap.size from fun b off e => by
              subst e
              have := (o5.lt b rfl).1
              omega)
            clear o5 b5 HS g0 g1 g2 g3 hRlt
            obtain ⟨go, rfl⟩ : ∃ go, go = gk := ⟨_, rfl⟩
            go_wp2_with fail
            go_loopg [9] L (fun r v wr => ∃ (k : Nat) (cu : List Dw), k + r = L ∧ v = .int .i64 k ∧ cu.length = n ∧ putAll x (gs.drop k) cu = some cur2 ∧ GSt w g w0.heap.size n cu wr ∧ RdSn wr A5 L gs)
            case atStart => exact ⟨0, cur, by omega, rfl, HCL.out, HP2.out, S5.out, R5.out⟩
            case round =>
              obtain ⟨k, cu, hk, rfl, hcu, hpa, hst, hrs⟩ := hrel
              have HPA := Lib.hid hpa
              have HS := Lib.hid hst
              have HCU := Lib.hid hcu
              clear S5 R5 hpa hst hcu HP2 HCL
              by_cases hkl : k < L
              · obtain ⟨lb, lo, ⟨tt, ty⟩, rfl, hlB, htd, s0, s1, s2, s3, s4, s5⟩ := hrs.at_ hkl
                have RS := Lib.hid hrs
                simp only at s0 s1 s2 s3 s4 s5
                have htn : tt < n := HGL.out (tt, ty) (List.mem_of_mem_drop (i := k) (by rw [htd]; simp))
                have e := HPA.out
                rw [htd, putAll] at e
                obtain ⟨m, z, hm, hz2, hput⟩ : ∃ m z, mulD x ty = some m ∧ addD (cu.getD tt Dw.zero) m = some z ∧ putAll x (gs.drop (k + 1)) (cu.set tt z) = some cur2 := by
                  cases hq : putD x cu (tt, ty) with
                  | none => rw [hq] at e; cases e
                  | some o =>
                    rw [hq] at e
                    obtain ⟨m, z, q1, q2, q3⟩ := putD_some hq
                    exact ⟨m, z, q1, q2, by rw [← q3]; exact e⟩
                obtain ⟨y, hy⟩ : ∃ y, cu.getD tt Dw.zero = y := ⟨_, rfl⟩
                rw [hy] at hz2
                have hdy : cu.drop tt = y :: cu.drop (tt + 1) := by
                  have hlen : tt < cu.length := by rw [HCU.out]; exact htn
                  rw [← hy, List.getD_eq_getElem?_getD, List.getElem?_eq_getElem hlen]
                  exact drop_cons hlen
                obtain ⟨hB, c0, c1, c2, c3, c4⟩ := (H.out.below HS.out.2.2).get hlt HD.out
                have hkI : (k : Int) < (L : Int) := by omega
                have hk0 : (0 : Int) ≤ (k : Int) := by omega
                have ht0 : (0 : Int) ≤ (tt : Int) := by omega
                have ht1 : (tt : Int) < (n : Int) := by omega
                have HM := Lib.hid hm
                have HZ := Lib.hid hz2
                have HPU := Lib.hid hput
                have HDY := Lib.hid hdy
                clear e htd hm hz2 hput hy hdy HPA hrs
                go_upto_region 12 with fail
                go_cut [10, 11] (fun v10 v11 wx => v11 = .bool true ∧ ∃ X, v10 = .pointer (some ⟨X, 0, none⟩) ∧ Bx wx X 83 #[.int .i64 m.n.a, .int .i64 m.n.b, .int .i64 m.n.c, .int .i64 m.n.d, .int .i64 m.e] ∧ Below wr.heap.size wr wx ∧ wr.heap.size ≤ X)
                case first =>
                  have HSS := Lib.hid (show ∀ wx : World, Below wr.heap.size wr wx → (wx.cell? ⟨b, off + i * 5, none⟩ = some (.int .i64 x.n.a) ∧ wx.cell? ⟨b, off + i * 5 + 1, none⟩ = some (.int .i64 x.n.b) ∧ wx.cell? ⟨b, off + i * 5 + 2, none⟩ = some (.int .i64 x.n.c) ∧ wx.cell? ⟨b, off + i * 5 + 3, none⟩ = some (.int .i64 x.n.d) ∧ wx.cell? ⟨b, off + i * 5 + 4, none⟩ = some (.int .i64 x.e)) ∧ (wx.cell? ⟨lb, lo + k * 6 + 1, none⟩ = some (.int .i64 ty.n.a) ∧ wx.cell? ⟨lb, lo + k * 6 + 2, none⟩ = some (.int .i64 ty.n.b) ∧ wx.cell? ⟨lb, lo + k * 6 + 3, none⟩ = some (.int .i64 ty.n.c) ∧ wx.cell? ⟨lb, lo + k * 6 + 4, none⟩ = some (.int .i64 ty.n.d) ∧ wx.cell? ⟨lb, lo + k * 6 + 5, none⟩ = some (.int .i64 ty.e)) from fun wx hb => ⟨⟨(hb.cell (p := ⟨b, off + i * 5, none⟩) hB).trans c0, (hb.cell (p := ⟨b, off + i * 5 + 1, none⟩) hB).trans c1, (hb.cell (p := ⟨b, off + i * 5 + 2, none⟩) hB).trans c2, (hb.cell (p := ⟨b, off + i * 5 + 3, none⟩) hB).trans c3, (hb.cell (p := ⟨b, off + i * 5 + 4, none⟩) hB).trans c4⟩, (hb.cell (p := ⟨lb, lo + k * 6 + 1, none⟩) hlB).trans s1, (hb.cell (p := ⟨lb, lo + k * 6 + 2, none⟩) hlB).trans s2, (hb.cell (p := ⟨lb, lo + k * 6 + 3, none⟩) hlB).trans s3, (hb.cell (p := ⟨lb, lo + k * 6 + 4, none⟩) hlB).trans s4, (hb.cell (p := ⟨lb, lo + k * 6 + 5, none⟩) hlB).trans s5⟩)
                  have V0 : Below wr.heap.size wr wr.drew := (Below.refl _ _).drew
                  have VA : Below wr.heap.size wr (wr.alloc (.cells #[.int .i64 0, .int .i64 0, .int .i64 0, .int .i64 0, .int .i64 0] 83)).drew := ((Below.refl _ _).alloc (Nat.le_refl _) _).drew
                  go_region_held3 (fun w' => (w'.cell? ⟨b, off + i * 5, none⟩ = some (.int .i64 x.n.a) ∧ w'.cell? ⟨b, off + i * 5 + 1, none⟩ = some (.int .i64 x.n.b) ∧ w'.cell? ⟨b, off + i * 5 + 2, none⟩ = some (.int .i64 x.n.c) ∧ w'.cell? ⟨b, off + i * 5 + 3, none⟩ = some (.int .i64 x.n.d) ∧ w'.cell? ⟨b, off + i * 5 + 4, none⟩ = some (.int .i64 x.e)) ∧ (w'.cell? ⟨lb, lo + k * 6 + 1, none⟩ = some (.int .i64 ty.n.a) ∧ w'.cell? ⟨lb, lo + k * 6 + 2, none⟩ = some (.int .i64 ty.n.b) ∧ w'.cell? ⟨lb, lo + k * 6 + 3, none⟩ = some (.int .i64 ty.n.c) ∧ w'.cell? ⟨lb, lo + k * 6 + 4, none⟩ = some (.int .i64 ty.n.d) ∧ w'.cell? ⟨lb, lo + k * 6 + 5, none⟩ = some (.int .i64 ty.e)))
                    (first | exact HSS.out _ V6 | exact HSS.out _ (V6.alloc (Below.size V6) _) | exact HSS.out _ (set5b V6 (Nat.le_refl _)) | exact HSS.out _ VA | exact HSS.out _ V0 | go_keep)
                    (first
                      | (go_at_call 161; refine (s_MulD x ty m _ HM.out).mono ?_; rintro e w6 ⟨rfl, b6⟩; have V6 : Below wr.heap.size wr w6 := (by first | exact below_trans VA b6 | exact below_trans V0 b6); (try (have ZX := (Bx.new wr 83 #[.int .i64 0, .int .i64 0, .int .i64 0, .int .i64 0, .int .i64 0]).drew.below b6; have ⟨z0, z1, z2, z3, z4, f0, f1, f2, f3, f4⟩ := bx5 ZX)))
                      | fail)
                  all_goals go_wp2_with fail
                  all_goals go_meet
                  all_goals refine ⟨rfl, _, rfl, ?_, ?_, ?_⟩
                  all_goals first
                    | (with_reducible exact Bx.new w6 _ _)
                    | (with_reducible exact bx5_set ZX)
                    | (with_reducible exact V6.alloc (Below.size V6) _)
                    | (with_reducible exact set5b V6 (Nat.le_refl _))
                    | (with_reducible exact Below.size V6)
                    | (with_reducible exact Nat.le_refl _)
                case rest =>
                  obtain ⟨rfl, X, rfl, xb, bb, hX⟩ := hcut
                  obtain ⟨w7, rfl⟩ : ∃ w7, w7 = wc := ⟨_, rfl⟩
                  have S7 := Lib.hid (HS.out.below bb)
                  have RS7 := Lib.hid (RS.out.below bb)
                  have sa := (bb.cell (p := ⟨lb, lo + k * 6, none⟩) hlB).trans s0
                  have hlB7 : lb < w7.heap.size := Nat.lt_of_lt_of_le hlB bb.size
                  have hRB : w0.heap.size < w7.heap.size := (S7.out.2.1.lt w0.heap.size rfl).2
                  obtain ⟨_, d0, d1, d2, d3, d4⟩ := (RdD.own S7.out.2.1).get htn HDY.out
                  simp only [Nat.zero_add] at d0 d1 d2 d3 d4
                  have hXB := xb.lt
                  obtain ⟨x0, x1, x2, x3, x4, _⟩ := bx5 xb
                  have XB := Lib.hid xb
                  clear s0 s1 s2 s3 s4 s5 c0 c1 c2 c3 c4 HS RS bb xb hlB hB HM hX
                  go_upto_region 13 with fail
                  go_cut [12, 13] (fun v10 v11 wx => v11 = .bool true ∧ ∃ Y, v10 = .pointer (some ⟨Y, 0, none⟩) ∧ Bx wx Y 83 #[.int .i64 z.n.a, .int .i64 z.n.b, .int .i64 z.n.c, .int .i64 z.n.d, .int .i64 z.e] ∧ Below w7.heap.size w7 wx ∧ w7.heap.size ≤ Y)
                  case first =>
                    have HSS := Lib.hid (show ∀ wx : World, Below w7.heap.size w7 wx → wx.cell? ⟨lb, lo + k * 6, none⟩ = some (.int .i64 (tt : Int)) ∧ (wx.cell? ⟨w0.heap.size, tt * 5, none⟩ = some (.int .i64 y.n.a) ∧ wx.cell? ⟨w0.heap.size, tt * 5 + 1, none⟩ = some (.int .i64 y.n.b) ∧ wx.cell? ⟨w0.heap.size, tt * 5 + 2, none⟩ = some (.int .i64 y.n.c) ∧ wx.cell? ⟨w0.heap.size, tt * 5 + 3, none⟩ = some (.int .i64 y.n.d) ∧ wx.cell? ⟨w0.heap.size, tt * 5 + 4, none⟩ = some (.int .i64 y.e)) ∧ (wx.cell? ⟨X, 0, none⟩ = some (.int .i64 m.n.a) ∧ wx.cell? ⟨X, 1, none⟩ = some (.int .i64 m.n.b) ∧ wx.cell? ⟨X, 2, none⟩ = some (.int .i64 m.n.c) ∧ wx.cell? ⟨X, 3, none⟩ = some (.int .i64 m.n.d) ∧ wx.cell? ⟨X, 4, none⟩ = some (.int .i64 m.e)) from fun wx hb => ⟨(hb.cell (p := ⟨lb, lo + k * 6, none⟩) hlB7).trans sa, ⟨(hb.cell (p := ⟨w0.heap.size, tt * 5, none⟩) hRB).trans d0, (hb.cell (p := ⟨w0.heap.size, tt * 5 + 1, none⟩) hRB).trans d1, (hb.cell (p := ⟨w0.heap.size, tt * 5 + 2, none⟩) hRB).trans d2, (hb.cell (p := ⟨w0.heap.size, tt * 5 + 3, none⟩) hRB).trans d3, (hb.cell (p := ⟨w0.heap.size, tt * 5 + 4, none⟩) hRB).trans d4⟩, (hb.cell (p := ⟨X, 0, none⟩) hXB).trans x0, (hb.cell (p := ⟨X, 1, none⟩) hXB).trans x1, (hb.cell (p := ⟨X, 2, none⟩) hXB).trans x2, (hb.cell (p := ⟨X, 3, none⟩) hXB).trans x3, (hb.cell (p := ⟨X, 4, none⟩) hXB).trans x4⟩)
                    have V0 : Below w7.heap.size w7 w7.drew := (Below.refl _ _).drew
                    have VA : Below w7.heap.size w7 (w7.alloc (.cells #[.int .i64 0, .int .i64 0, .int .i64 0, .int .i64 0, .int .i64 0] 83)).drew := ((Below.refl _ _).alloc (Nat.le_refl _) _).drew
                    go_region_held3 (fun w' => w'.cell? ⟨lb, lo + k * 6, none⟩ = some (.int .i64 (tt : Int)) ∧ (w'.cell? ⟨w0.heap.size, tt * 5, none⟩ = some (.int .i64 y.n.a) ∧ w'.cell? ⟨w0.heap.size, tt * 5 + 1, none⟩ = some (.int .i64 y.n.b) ∧ w'.cell? ⟨w0.heap.size, tt * 5 + 2, none⟩ = some (.int .i64 y.n.c) ∧ w'.cell? ⟨w0.heap.size, tt * 5 + 3, none⟩ = some (.int .i64 y.n.d) ∧ w'.cell? ⟨w0.heap.size, tt * 5 + 4, none⟩ = some (.int .i64 y.e)) ∧ (w'.cell? ⟨X, 0, none⟩ = some (.int .i64 m.n.a) ∧ w'.cell? ⟨X, 1, none⟩ = some (.int .i64 m.n.b) ∧ w'.cell? ⟨X, 2, none⟩ = some (.int .i64 m.n.c) ∧ w'.cell? ⟨X, 3, none⟩ = some (.int .i64 m.n.d) ∧ w'.cell? ⟨X, 4, none⟩ = some (.int .i64 m.e)))
                      (first | exact HSS.out _ V6 | exact HSS.out _ (V6.alloc (Below.size V6) _) | exact HSS.out _ (set5b V6 (Nat.le_refl _)) | exact HSS.out _ VA | exact HSS.out _ V0 | go_keep)
                      (first
                        | (go_at_call 162; refine (s_AddD y m z _ HZ.out).mono ?_; rintro e w6 ⟨rfl, b6⟩; have V6 : Below w7.heap.size w7 w6 := (by first | exact below_trans VA b6 | exact below_trans V0 b6); (try (have ZX := (Bx.new w7 83 #[.int .i64 0, .int .i64 0, .int .i64 0, .int .i64 0, .int .i64 0]).drew.below b6; have ⟨z0, z1, z2, z3, z4, f0, f1, f2, f3, f4⟩ := bx5 ZX)))
                        | fail)
                    all_goals go_wp2_with fail
                    all_goals go_meet
                    all_goals refine ⟨rfl, _, rfl, ?_, ?_, ?_⟩
                    all_goals first
                      | (with_reducible exact Bx.new w6 _ _)
                      | (with_reducible exact bx5_set ZX)
                      | (with_reducible exact V6.alloc (Below.size V6) _)
                      | (with_reducible exact set5b V6 (Nat.le_refl _))
                      | (with_reducible exact Below.size V6)
                      | (with_reducible exact Nat.le_refl _)
                  case rest =>
                    obtain ⟨rfl, Y, rfl, yb, bb, hY⟩ := hcut
                    obtain ⟨w8, rfl⟩ : ∃ w8, w8 = wc := ⟨_, rfl⟩
                    have S8 := Lib.hid (S7.out.below bb)
                    have RS8 := Lib.hid (RS7.out.below bb)
                    have sb := (bb.cell (p := ⟨lb, lo + k * 6, none⟩) hlB7).trans sa
                    obtain ⟨y0, y1, y2, y3, y4, _⟩ := bx5 yb
                    obtain ⟨⟨⟨e0, q0⟩, ⟨e1, q1⟩, ⟨e2, q2⟩, ⟨e3, q3⟩, ⟨e4, q4⟩⟩, f0, f1, f2, f3, f4⟩ := own5 S8.out.2.1 htn
                    have hYR : Y ≠ w0.heap.size := by omega
                    clear sa d0 d1 d2 d3 d4 x0 x1 x2 x3 x4 S7 RS7 XB bb yb hXB HZ HDY
                    go_upto_region 16 with fail
                    go_region
                    all_goals go_wp2_with fail
                    go_roundg (gk - 1)
                    case measure => omega
                    case rel => exact ⟨k + 1, cu.set tt z, by omega, by go_num, by rw [List.length_set]; exact HCU.out, HPU.out, S8.out.store (by rw [HCU.out]; exact htn) hs z, RS8.out.store NE.out z (tt * 5)⟩
              · have e := HPA.out
                rw [List.drop_eq_nil_of_le (by have := HLL.out; omega), putAll] at e
                injection e with e
                subst e
                go_wp2_with fail
                go_roundg (go - 1)
                case measure => omega
                case rel => exact ⟨i + 1, cu, by omega, by go_num, HCU.out, HA2.out, HS.out⟩
      · have e := HAP.out
        rw [List.drop_eq_nil_of_le (by have := H.out.1; omega), appL] at e
        injection e with e
        subst e
        go_wp2_with fail
        exact bodyPost_ret (v := .tuple #[.slice (some ⟨w0.heap.size, 0, none⟩) n n, .bool true]) (by simp [results, Try.results131, go_sem]) rfl ⟨_, _, rfl, ownsRow_base HS.out.2.1 (by omega), HS.out.2.2⟩
end Go.Proofs.Ytibhikngiceeeaa
