/- Contracts of l34Alike and MergeGates. Plain: merging two gates; equality of gates as values. Plain: valid gates on three qubits, listed; gates that commute may be exchanged, merged gates do the same, on every basis state. Nothing is asked. Plain: a number of D[omega] in its normal form, written z over the E-th power of the root of 2: sums and products of such, where nothing grows too large. ... -/
import Derived.Test.YtmenmibfkojnoaaGreatV10
import Derived.Test.YtmenmibfkojnoaaGreatV09
import Derived.Test.YtmenmibfkojnoaaGreatV05
import Derived.BigGuardPart
import Derived.StillTailTactics
import Derived.Deep.RegionWith
import Derived.Deep.DeepCutAuto
import Derived.RegionTactic
import Derived.Deep.RegionHeld3
import Derived.Deep.RegionLaw
set_option maxHeartbeats 16000000
namespace Go.Proofs.YtmenmibfkojnoaaGreat
open Go.RowKit
def alike (k a b k' a' b':Int):Bool:=(k == k' && (k == 10 || k == 11)) && ((a == a' && b == b') || (a == b' && b == a'))
theorem s_alike (k a b c k' a' b' c':Int) (w:World):Calls Tryz.prog 176 #[.agg #[.int .i64 k,.int .i64 a,.int .i64 b,.int .i64 c],.agg #[.int .i64 k',.int .i64 a',.int .i64 b',.int .i64 c']] w fun e w'=>e=.returned (.bool (alike k a b k' a' b'))/\Below w.heap.size w w':=by
 go_enter Tryz.func176,Tryz.ntmps176
 go_wp2
 all_goals go_ret
 all_goals exact ⟨ret_bool (by unfold alike;simp [*]<;>(intros;omega)),(by repeat (first | exact zW | assumption | refine Below.drew ?_ | refine Below.alloc ?_ (by simp<;>omega) _))⟩
end Go.Proofs.YtmenmibfkojnoaaGreat
namespace Go.Proofs.YtmenmibfkojnoaaGreat
open Go.RowKit
theorem eqGV (k a b c k' a' b' c':Int) (w:World):(Op.equalIn 10000 39 (.agg #[.int .i64 k,.int .i64 a,.int .i64 b,.int .i64 c]) (.agg #[.int .i64 k',.int .i64 a',.int .i64 b',.int .i64 c'])).run Tryz.prog w=.ok (k == k' && (a == a' && (b == b' && c == c'))) w:=by
 have u3:=Tryz.underlying3
 have a3:=Tryz.isAgg3
 have z3:=Tryz.sizeOf3
 have hS:Tryz.prog.underlying 39=some (.struct (Tryz.prog.fieldsOf 39)):=by kernel_rfl
 rw [show (10000:Nat)=9999+1 from rfl,run_equalIn_agg w 9999 39 _ _ hS (by kernel_rfl)]
 simp only [Program.fieldsOf,Tryz.underlying39]
 go_simp
 by_cases h1:k=k'<;>by_cases h2:a=a'<;>by_cases h3:b=b'<;>by_cases h4:c=c'<;>simp [h1,h2,h3,h4]
def isInv (g h:Gt):Bool:=h.k == invK g.k && (h.a == g.a && (h.b == g.b && h.c == g.c))
def alikeG (g h:Gt):Bool:=alike g.k g.a g.b h.k h.a h.b
def mergeB (g h:Gt):Bool:=decide (0 < arity g.k) && (isInv g h || alikeG g h)
def rotB (g h:Gt):Bool:=(decide (0 < units g.k) && decide (0 < units h.k)) && g.a == h.a
def sumU (g h:Gt):Int:=(units g.k+units h.k) % 8
def rotOne (g h:Gt):Bool:=rotB g h && decide ((rotK (sumU g h)).length<=1)
def mergeOk (g h:Gt):Bool:=mergeB g h || rotOne g h
def mergeL (g h:Gt):List Gt:=if mergeB g h then [] else if rotOne g h then rotG (sumU g h) g.a else []
def RetGB (gs:List Gt) (b:Bool) (w:World) (e:Ending) (w':World):Prop :=
 ∃ (A:Option Addr) (c:Nat),e=.returned (.tuple #[.slice A gs.length c,.bool b])/\w'.ownsRow w.heap.size 39 4 (.slice A gs.length c) gs.length (cellsG gs)/\Below w.heap.size w w'
theorem merge_yes {g h:Gt} (hb:mergeB g h=true):mergeL g h=[]/\mergeOk g h=true:=by simp [mergeL,mergeOk,hb]
theorem merge_rot {g h:Gt} (hb:mergeB g h=false) (hr:rotB g h=true) (h1:(rotK (sumU g h)).length<=1):mergeL g h=rotG (sumU g h) g.a/\mergeOk g h=true:=by simp [mergeL,mergeOk,hb,rotOne,hr,h1]
theorem merge_two {g h:Gt} (hb:mergeB g h=false) (h1:¬ (rotK (sumU g h)).length<=1):mergeL g h=[]/\mergeOk g h=false:=by simp [mergeL,mergeOk,hb,rotOne,h1]
theorem merge_no {g h:Gt} (hb:mergeB g h=false) (hr:rotB g h=false):mergeL g h=[]/\mergeOk g h=false:=by simp [mergeL,mergeOk,hb,rotOne,hr]
theorem mergeB_0 {g h:Gt} (h0:arity g.k=0):mergeB g h=false:=by simp [mergeB,h0]
theorem rotB_0 {g h:Gt} (h0:arity g.k=0):rotB g h=false:=by
 have:units g.k=0:=by
  rcases units_cases g.k with h | h | h | h | h | h
  all_goals first | exact h.2.2.2.2.2 | (exfalso;obtain ⟨e,_⟩:=h;rw [e] at h0;simp [arity] at h0)
 simp [rotB,this]
set_option linter.unusedVariables false
def ks3:List Int:=[1,2,3,4,5,6,7,8,9,10,11,12]
theorem ks_mem {k:Int} (h:0 < arity k):k ∈ ks3:=by
 have hk:1<=k/\k<=12:=by
  rcases arity_cases k with ⟨h1,h2,h3⟩ | ⟨h1,h2,h3⟩ | ⟨h1,h3⟩ | ⟨h1,h3⟩<;>omega
 obtain rfl | rfl | rfl | rfl | rfl | rfl | rfl | rfl | rfl | rfl | rfl | rfl:k=1 ∨ k=2 ∨ k=3 ∨ k=4 ∨ k=5 ∨ k=6 ∨ k=7 ∨ k=8 ∨ k=9 ∨ k=10 ∨ k=11 ∨ k=12:=by omega
 all_goals decide
set_option linter.unusedVariables false
end Go.Proofs.YtmenmibfkojnoaaGreat
namespace Go.Proofs.YtmenmibfkojnoaaGreat
set_option linter.unusedVariables false
theorem getD_set {α:Type} {l:List α} {t s:Nat} {x d:α} (ht:t < l.length):(l.set t x).getD s d=if s=t then x else l.getD s d:=by
 rw [List.getD_eq_getElem?_getD,List.getD_eq_getElem?_getD,List.getElem?_set]
 by_cases h:t=s
 ·subst h
  rw [if_pos rfl,if_pos rfl,if_pos ht]
  rfl
 ·rw [if_neg h,if_neg (fun e=>h e.symm)]
end Go.Proofs.YtmenmibfkojnoaaGreat
namespace Go.Proofs.YtmenmibfkojnoaaGreat
set_option linter.unusedVariables false
end Go.Proofs.YtmenmibfkojnoaaGreat
namespace Go.Proofs.YtmenmibfkojnoaaGreat
set_option linter.unusedVariables false
def nsN (n:Nat):List Int:=(List.range n).map Int.ofNat
def okN (n:Nat) (g:Gt):Bool:=okG g.k g.a g.b g.c (n:Int)
def gatesN (n:Nat):List Gt:=(ks3.flatMap fun k=>(nsN n).flatMap fun a=>(nsN n).flatMap fun b=>(nsN n).map fun c=>(⟨k,a,b,c⟩:Gt)).filter (okN n)
theorem okQN_bd {ar hi:Int} (h0:0<=hi):∀ (l seen:List Int),okQ ar hi seen l=true->∀ x ∈ l,0<=x/\x<=hi
 |[],_,_=>by simp
 |y :: r,seen,h=>by
  rw [okQ] at h
  by_cases hb:badQ ar hi seen.length seen y=true
  ·rw [if_pos hb] at h;cases h
  ·rw [if_neg hb] at h
   intro x hx
   rcases List.mem_cons.1 hx with rfl | hx
   ·unfold badQ at hb
    by_cases hlt:(seen.length:Int) < ar
    ·rw [if_pos hlt] at hb
     rcases inB_casesQ x 0 hi with ⟨_,h1⟩ | ⟨h1,_⟩
     ·exact h1
     ·rw [h1] at hb;simp at hb
    ·rw [if_neg hlt] at hb
     have:x=0:=by simpa using hb
     omega
   ·exact okQN_bd h0 r _ h x hx
theorem nsN_mem {n:Nat} {x:Int} (h:0<=x/\x<=(n:Int) - 1):x ∈ nsN n:=by
 refine List.mem_map.2 ⟨x.toNat,List.mem_range.2 (by omega),?_⟩
 show ((x.toNat:Nat):Int)=x
 omega
theorem okN_in {n:Nat} {g:Gt} (h:okN n g=true):1<=n/\n<=4:=by
 unfold okN okG at h
 simp only [Bool.and_eq_true] at h
 have:=inB_iff.1 h.1
 omega
theorem okN_mem {n:Nat} {g:Gt} (h:okN n g=true):g ∈ gatesN n:=by
 refine List.mem_filter.2 ⟨?_,h⟩
 have hn:=okN_in h
 unfold okN okG at h
 simp only [Bool.and_eq_true,decide_eq_true_eq] at h
 have hb:=okQN_bd (by omega) _ _ h.2.2
 have ha:=nsN_mem (hb g.a (by simp))
 have hb':=nsN_mem (hb g.b (by simp))
 have hc:=nsN_mem (hb g.c (by simp))
 have hk:=ks_mem h.2.1
 exact List.mem_flatMap.2 ⟨g.k,hk,List.mem_flatMap.2 ⟨g.a,ha,List.mem_flatMap.2 ⟨g.b,hb',List.mem_map.2 ⟨g.c,hc,rfl⟩⟩⟩⟩
end Go.Proofs.YtmenmibfkojnoaaGreat
