/- Reads at a known place; slices of slices of gates. Nothing is asked. -/
import Derived.Test.YtibhikngiceeeaaProg
import Derived.Test.YtibhikngiceeeaaBase
namespace Go.Proofs.Ytibhikngiceeeaa
open Go.RowKit

theorem RdG.first {w : World} {A : Option Addr} {n : Nat} {gs : List Gt} (h : RdG w A n gs) (hn : 0 < n) : ∃ b off, A = some ⟨b, off, none⟩ := by
  obtain ⟨b, off, e, _⟩ := h.2.2 hn
  exact ⟨b, off, e⟩
theorem RdG.cellsAt {w : World} {b off n k : Nat} {gs r : List Gt} {g : Gt} (h : RdG w (some ⟨b, off, none⟩) n gs) (hd : gs.drop k = g :: r) :
    b < w.heap.size ∧ w.cell? ⟨b, off + k * 4, none⟩ = some (.int .i64 g.k) ∧ w.cell? ⟨b, off + k * 4 + 1, none⟩ = some (.int .i64 g.a) ∧ w.cell? ⟨b, off + k * 4 + 2, none⟩ = some (.int .i64 g.b) ∧ w.cell? ⟨b, off + k * 4 + 3, none⟩ = some (.int .i64 g.c) := by
  have hk : k < n := by
    rcases Nat.lt_or_ge k gs.length with h1 | h1
    · have := h.1; omega
    · rw [List.drop_eq_nil_of_le h1] at hd; cases hd
  obtain ⟨b', off', g', e, hb, hd', c⟩ := h.at_ hk
  injection e with e
  injection e with e1 e2
  subst e1 e2
  rw [hd] at hd'
  injection hd' with e3 _
  subst e3
  exact ⟨hb, c⟩
theorem RdG.mid {w : World} {A : Option Addr} {n : Nat} {gs : List Gt} (h : RdG w A n gs) {lo hi cap : Nat} (h1 : lo ≤ hi) (h2 : hi ≤ n) (hc : n ≤ cap) : RdG w (if cap = lo then A else A.map (·.add (lo * 4))) (hi - lo) ((gs.drop lo).take (hi - lo)) :=
  (h.cut (k := lo) (by omega) hc).pre (by omega)
theorem sl_lh (A : Option Addr) (n c lo hi : Nat) (h1 : lo ≤ hi) (h2 : hi ≤ c) (w : World) :
    (Instr.slice 41 (.slice A n c) (some (.int .i64 (lo : Int))) (some (.int .i64 (hi : Int))) none).run Try.prog w = .ok (.slice (if c = lo then A else A.map (·.add (lo * 4))) (hi - lo) (c - lo)) w := by
  have hz : (sizeOf (Try.prog.elem 41)).run Try.prog w = .ok 4 w := by kernel_rfl
  rw [run_slice_lh w 41 A n c (by kernel_rfl) .i64 .i64 lo hi (by omega) (by omega) (by omega), hz]
  simp only [Result.andThen, sliced, Int.toNat_natCast]
theorem sl_l (A : Option Addr) (n c lo : Nat) (h1 : lo ≤ n) (w : World) :
    (Instr.slice 41 (.slice A n c) (some (.int .i64 (lo : Int))) none none).run Try.prog w = .ok (.slice (if c = lo then A else A.map (·.add (lo * 4))) (n - lo) (c - lo)) w := by
  have hz : (sizeOf (Try.prog.elem 41)).run Try.prog w = .ok 4 w := by kernel_rfl
  rw [run_slice_l w 41 A n c (by kernel_rfl) .i64 lo (by omega) (by omega), hz]
  simp only [Result.andThen, sliced, Int.toNat_natCast]
theorem sl_h (A : Option Addr) (n c hi : Nat) (h2 : hi ≤ c) (w : World) :
    (Instr.slice 41 (.slice A n c) none (some (.int .i64 (hi : Int))) none).run Try.prog w = .ok (.slice A hi c) w := by
  have hz : (sizeOf (Try.prog.elem 41)).run Try.prog w = .ok 4 w := by kernel_rfl
  rw [run_slice_h w 41 A n c (by kernel_rfl) .i64 hi (by omega) (by omega), hz]
  simp only [Result.andThen, sliced, Int.toNat_natCast]
  cases A <;> simp [Addr.add]
section
variable {P : Program} {w : World}
/-- append onto an empty row of the call's own. -/
theorem step_app0 {ops : Array Oper} {o : Oper} {a : Act} {K : Act → World → Prop} {Q : Exit → Act → World → Prop} {E : Prop} (hgd : o.guard = none) (s x : Operand) (t : TypeId)
    (ho : o.op = .call { callee := .builtin .append, args := #[s, x], argTypes := #[t, t] })
    {base e : Nat} {z : Value} {size bytes : Nat} (ht : P.underlying t = some (.slice e)) (hinfo : (P.info? e).map (fun i => (i.zero, i.size, i.bytes)) = some (some z, size, bytes))
    (hzs : z.cells.size = size) (hsz : 0 < size) {A : Option Addr} {c : Nat} (hs : a.eval s = .slice A 0 c) (hown : w.ownsRow base e size (.slice A 0 c) 0 [])
    {A' : Option Addr} {m c' : Nat} {news : List Value} (hx : a.eval x = .slice A' m c') (hr : Rd w size A' m news) (h1 : ∀ u ∈ news, u.oneCell' = true)
    (hbytes : m * bytes ≤ 140737488355328) (hby : 0 < bytes) (hbase : base ≤ w.heap.size)
    (h : ∀ A'' c'' w', w'.ownsRow base e size (.slice A'' m c'') m news → w.grownBy w' (Value.slice A 0 c).ownBlock → K (a.put o.dst (.slice A'' m c'')) w') :
    if Region.wanted o (yielded ops a.tmps) = true then Oper.wp P o a w K Q else E := by
  have hw : Region.wanted o (yielded ops a.tmps) = true := by simp [Region.wanted, hgd]
  rw [if_pos hw]
  refine wp_app s x t ho ht hinfo hzs hsz hs hown hx hr h1 (by simpa using hbytes) hby hbase ?_
  intro A'' c'' w' h1 h2
  rw [Nat.zero_add] at h1 ⊢
  rw [List.nil_append] at h1
  exact h A'' c'' w' h1 h2
theorem wpList_app0 {ops : Array Oper} {rest : List Oper} {o : Oper} {a : Act} {Q : Exit → Act → World → Prop} (hgd : o.guard = none) (s x : Operand) (t : TypeId)
    (ho : o.op = .call { callee := .builtin .append, args := #[s, x], argTypes := #[t, t] })
    {base e : Nat} {z : Value} {size bytes : Nat} (ht : P.underlying t = some (.slice e)) (hinfo : (P.info? e).map (fun i => (i.zero, i.size, i.bytes)) = some (some z, size, bytes))
    (hzs : z.cells.size = size) (hsz : 0 < size) {A : Option Addr} {c : Nat} (hs : a.eval s = .slice A 0 c) (hown : w.ownsRow base e size (.slice A 0 c) 0 [])
    {A' : Option Addr} {m c' : Nat} {news : List Value} (hx : a.eval x = .slice A' m c') (hr : Rd w size A' m news) (h1 : ∀ u ∈ news, u.oneCell' = true)
    (hbytes : m * bytes ≤ 140737488355328) (hby : 0 < bytes) (hbase : base ≤ w.heap.size)
    (h : ∀ A'' c'' w', w'.ownsRow base e size (.slice A'' m c'') m news → w.grownBy w' (Value.slice A 0 c).ownBlock → wpList P ops Q rest (a.put o.dst (.slice A'' m c'')) w') : wpList P ops Q (o :: rest) a w :=
  wpList_app hgd s x t ho ht hinfo hzs hsz hs hown hx hr h1 (by simpa using hbytes) hby hbase fun A'' c'' w' h1 h2 => by
    rw [Nat.zero_add] at h1 ⊢
    rw [List.nil_append] at h1
    exact h A'' c'' w' h1 h2
end
end Go.Proofs.Ytibhikngiceeeaa
