/- Contracts of IdentityTableau, for one to four qubits. Plain: words, tables and normal forms of one qubit; what spec and impl reckon is the same. No program in sight; nothing is asked. Contract of MergeGates (spec). Contracts of IdentityPhasePolynomial (impl and spec). Nothing is asked. -/
import Derived.Test.YtmenmibfkojnoaaGreatV16
import Derived.Test.YtmenmibfkojnoaaGreatV10
import Derived.Test.YtmenmibfkojnoaaGreatV12
import Derived.Test.YtmenmibfkojnoaaGreatV01
import Derived.Test.YtmenmibfkojnoaaGreatV11
import Derived.Test.YtmenmibfkojnoaaGreatV18
import Derived.StillTailTactics
import Derived.Deep.RegionWith
import Derived.Deep.RegionHeld3
import Derived.Deep.DeepCutAuto
import Derived.Deep.QuietTactic
import Derived.BigQuiet
import Derived.Deep.RegionLaw
set_option maxHeartbeats 16000000
namespace Go.Proofs.YtmenmibfkojnoaaGreat
open Go.RowKit
set_option linter.unusedVariables false
theorem idT_len (n:Nat):(idT n).length=2 * n:=by unfold idT;simp;omega
theorem idT_x {n k:Nat} (h:k < n):(idT n)[k]? = some (xQ k):=by
 unfold idT
 rw [List.getElem?_append_left (by simpa using h)]
 simp [h]
theorem idT_z {n k:Nat} (h:k < n):(idT n)[n+k]? = some (zQ k):=by
 unfold idT
 rw [List.getElem?_append_right (by simp)]
 simp [h]
theorem idT_take_x {n k X:Nat} (h:k < n) (hX:2 ^ k=X):(idT n).take (k+1)=(idT n).take k++[⟨X,0,0⟩]:=by rw [take_snocT (idT_x h)];unfold xQ;rw [hX]
theorem idT_take_z {n k X:Nat} (h:k < n) (hX:2 ^ k=X):(idT n).take (n+k+1)=(idT n).take (n+k)++[⟨0,X,0⟩]:=by rw [take_snocT (idT_z h)];unfold zQ;rw [hX]
set_option maxRecDepth 100000 in
theorem i_IdTab (n:Nat) (w:World) (hn:1<=n/\n<=4):Calls Tryz.prog 114 #[.int .i64 (n:Nat)] w (RetTab1 n (2 * n) (idT n) w):=by
 have HI:=zH (show inB (n:Int) 1 4=true from inB_t (by omega) (by omega))
 have R0:=zH (show Bx ((w.alloc (.cells #[.int .i64 0,.slice none 0 0] 73)).alloc (.cells #[.int .i64 (n:Nat),.slice none 0 0] 73)) w.heap.size 73 #[.int .i64 0,.slice none 0 0] from (Bx.new _ _ _).alloc _)
 have M0:=zH (show MB w n (w.heap.size+1) 0 none 0 ((idT n).take 0) ((w.alloc (.cells #[.int .i64 0,.slice none 0 0] 73)).alloc (.cells #[.int .i64 (n:Nat),.slice none 0 0] 73)) from ⟨Bx.new' (by simp),World.ownsRow_nil _ _ _ _,((zW).alloc zR _).alloc (by simp) _,by omega,by simp⟩)
 have hz2:(Value.agg #[.int .i64 0,.int .i64 0,.int .i64 0,.int .i64 0]).cells.size=4:=rfl
 go_enter Tryz.func114,Tryz.ntmps114
 go_wp2_with fail
 refine (i_in _ _ _ _).mono ?_
 rintro e w1 ⟨rfl,rfl⟩
 rw [HI.out]
 go_wp2_with fail
 go_loopg [4] n (fun q i wr=>∃ (k:Nat) (A0:Option Addr) (c0:Nat),k+q=n/\i=.int .i64 k/\Bx wr w.heap.size 73 #[.int .i64 0,.slice none 0 0]/\MB w n (w.heap.size+1) k A0 c0 ((idT n).take k) wr)
 case atStart=>exact ⟨0,none,0,by omega,rfl,R0.out,M0.out⟩
 case round =>
  clear R0 M0
  obtain ⟨k,A0,c0,hk,rfl,hR,hM⟩:=hrel
  have m0:=hM.1.cell 0
  have m1:=hM.1.cell 1
  have hO:=hM.2.2.2.2
  have RR:=zH hR
  have MM:=zH hM
  clear hR hM
  by_cases hlt:k < n
  ·obtain ⟨S1,S2,S3⟩:=shl2 ⟨k,by omega⟩
   simp only at S1 S2 S3
   obtain ⟨X,hX⟩:∃ X:Nat,2 ^ k=X:=⟨_,rfl⟩
   rw [hX] at S1 S2 S3
   have HT:=zH (idT_take_x hlt hX)
   clear hX
   have M2:=zH (MM.out.alloc (.cells #[.int .i64 (n:Nat),.int .i64 (X:Nat),.int .i64 0,.int .i64 0] 151))
   have R2:=zH (RR.out.alloc (.cells #[.int .i64 (n:Nat),.int .i64 (X:Nat),.int .i64 0,.int .i64 0] 151))
   have OV:Hid ((wr.alloc (.cells #[.int .i64 (n:Nat),.int .i64 (X:Nat),.int .i64 0,.int .i64 0] 151)).drew.ownsRow (w.heap.size+1+1) 151 4 (.slice A0 k c0) k (cellsG (pgs n ((idT n).take k)))):=zH M2.out.2.1
   go_wp2_with fail
   go_region_law (first
    |(refine step_app (by rfl) (.tmp 18) (.tmp 23) 71 (by rfl) Tryz.underlying71 infoPauli hz2 (by decide) (by simp [Act.eval]<;>rfl) OV.out (by simp [Act.eval]<;>rfl) (Rd.drew (Rd.lit wr 151 #[.int .i64 (n:Nat),.int .i64 (X:Nat),.int .i64 0,.int .i64 0] 1 4 rfl)) (by simp [Value.oneCell']) (by omega) (by decide) (by simp<;>omega) ?_;intro A5 c5 w5 o5 g5;have Y2:=M2.out.grown (und_grownT g5);have ⟨q0,q1,e0,e1⟩:=Y2.two))
   all_goals go_wp2_with fail
   all_goals go_roundg (gk - 1)
   all_goals first
    |omega
    |exact ⟨k+1,A5,c5,by omega,by go_num,M2.out.keeps (und_grownT g5) R2.out (by omega),by rw [HT.out];exact M2.out.push (und_grownT g5) o5⟩
  ·obtain rfl:k=n:=by omega
   obtain ⟨wo,rfl⟩:∃ wo,wo=wr:=⟨_,rfl⟩
   go_wp2_with fail
   go_loopg [5] k (fun q i wr=>∃ (j:Nat) (A0:Option Addr) (c0:Nat),j+q=k/\i=.int .i64 j/\Bx wr w.heap.size 73 #[.int .i64 0,.slice none 0 0]/\MB w k (w.heap.size+1) (k+j) A0 c0 ((idT k).take (k+j)) wr)
   case atStart=>exact ⟨0,A0,c0,by omega,rfl,RR.out,MM.out⟩
   case round =>
    clear RR MM m0 m1 hO
    obtain ⟨j,A1,c1,hj,rfl,hR,hM⟩:=hrel
    have m0:=hM.1.cell 0
    have m1:=hM.1.cell 1
    have hO:=hM.2.2.2.2
    have RR:=zH hR
    have MM:=zH hM
    clear hR hM
    by_cases hlt:j < k
    ·obtain ⟨S1,S2,S3⟩:=shl2 ⟨j,by omega⟩
     simp only at S1 S2 S3
     obtain ⟨X,hX⟩:∃ X:Nat,2 ^ j=X:=⟨_,rfl⟩
     rw [hX] at S1 S2 S3
     have HT:=zH (idT_take_z hlt hX)
     clear hX
     have M2:=zH (MM.out.alloc (.cells #[.int .i64 (k:Nat),.int .i64 0,.int .i64 (X:Nat),.int .i64 0] 151))
     have R2:=zH (RR.out.alloc (.cells #[.int .i64 (k:Nat),.int .i64 0,.int .i64 (X:Nat),.int .i64 0] 151))
     have OV:Hid ((wr.alloc (.cells #[.int .i64 (k:Nat),.int .i64 0,.int .i64 (X:Nat),.int .i64 0] 151)).drew.ownsRow (w.heap.size+1+1) 151 4 (.slice A1 (k+j) c1) (k+j) (cellsG (pgs k ((idT k).take (k+j))))):=zH M2.out.2.1
     go_wp2_with fail
     go_region_law (first
      |(refine step_app (by rfl) (.tmp 32) (.tmp 37) 71 (by rfl) Tryz.underlying71 infoPauli hz2 (by decide) (by simp [Act.eval]<;>rfl) OV.out (by simp [Act.eval]<;>rfl) (Rd.drew (Rd.lit wr 151 #[.int .i64 (k:Nat),.int .i64 0,.int .i64 (X:Nat),.int .i64 0] 1 4 rfl)) (by simp [Value.oneCell']) (by omega) (by decide) (by simp<;>omega) ?_;intro A5 c5 w5 o5 g5;have Y2:=M2.out.grown (und_grownT g5);have ⟨q0,q1,e0,e1⟩:=Y2.two))
     all_goals go_wp2_with fail
     all_goals go_roundg (gk - 1)
     all_goals first
      |omega
      |exact ⟨j+1,A5,c5,by omega,by go_num,M2.out.keeps (und_grownT g5) R2.out (by omega),by show MB w k (w.heap.size+1) (k+j+1) A5 c5 ((idT k).take (k+j+1)) _;rw [HT.out];exact M2.out.push (und_grownT g5) o5⟩
    ·obtain rfl:j=k:=by omega
     obtain ⟨r0,r1,r2,r3⟩:=RR.out.two
     have hrs:(idT j).take (j+j)=idT j:=List.take_of_length_le (by rw [idT_len];omega)
     have h2:j+j=2 * j:=by omega
     have HM:=MM.out
     rw [hrs] at HM
     go_wp2_with fail
     have RB:=RR.out
     rw [h2] at HM
     with_reducible refine ret_S2 RB ?_ ?_ ⟨A1,c1,rfl,?_,?_⟩
     ·intro wS z0 z1;simp [results,Tryz.results114,go_sem,z0,z1]
     ·rfl
     ·exact ownsRow_base (ownS2 HM.2.1 (by omega) _ _) (by omega)
     ·exact belowS2 HM.2.2.1 (by omega) _ _
def g1 (k:Int):Gt:=⟨k,0,0,0⟩
def kinds6:List Int:=[1,2,3,4,5,6]
abbrev BSt:=List (List Gt) × List (List Pq)
def stepB (s:BSt) (i:Nat) (k:Int):BSt :=
 if s.2.contains (appT 1 (g1 k) (s.2.getD i []))=true then s else (s.1++[s.1.getD i []++[g1 k]],s.2++[appT 1 (g1 k) (s.2.getD i [])])
def stepsB (s:BSt) (i:Nat):List Int->BSt
 |[]=>s
 |k :: r=>stepsB (stepB s i k) i r
def bfsN:Nat->BSt
 |0=>([[]],[idT 1])
 |i+1=>stepsB (bfsN i) i kinds6
def allW:List (List Gt):=(bfsN 24).1
def allT:List (List Pq):=(bfsN 24).2
def idxL {α:Type} [DecidableEq α] (a:α):List α->Nat
 |[]=>0
 |b :: r=>if b=a then 0 else idxL a r+1
def cw (t:List Pq):List Gt:=allW.getD (idxL t allT) []
def pauli1:List Pq:=(List.range 2).flatMap fun x=>(List.range 2).flatMap fun z=>(List.range 4).map fun p=>⟨x,z,p⟩
def okT1 (t:List Pq):Bool:=t.all (fun a=>okQn 1 a && herQ a) && !comQ (t.getD 0 ⟨0,0,0⟩) (t.getD 1 ⟨0,0,0⟩)
def chkAll:Bool:=pauli1.all fun a=>pauli1.all fun b=>!(okT1 [a,b]) || allT.contains [a,b]
theorem chkAll_t:chkAll=true:=by decide +kernel
theorem pauli1_mem {a:Pq} (h:okQn 1 a=true):a ∈ pauli1:=by
 obtain ⟨h1,h2,h3⟩:=okQn_iff.1 h
 exact List.mem_flatMap.2 ⟨a.x,List.mem_range.2 h1,List.mem_flatMap.2 ⟨a.z,List.mem_range.2 h2,List.mem_map.2 ⟨a.p,List.mem_range.2 h3,rfl⟩⟩⟩
theorem mem_allT {t:List Pq} (h:okT 1 t):t ∈ allT:=by
 obtain ⟨h1,h2,h3⟩:=h
 match t,h1 with
 |[a,b],_ =>
  obtain ⟨a1,a2⟩:=h2 a (by simp)
  obtain ⟨b1,b2⟩:=h2 b (by simp)
  have hc:=h3 0 1 a b (by omega) rfl rfl
  have:=List.all_eq_true.1 (List.all_eq_true.1 chkAll_t a (pauli1_mem a1)) b (pauli1_mem b1)
  have hok:okT1 [a,b]=true:=by
   unfold okT1
   simp only [List.all_cons,List.all_nil,a1,a2,b1,b2,Bool.and_self,Bool.true_and]
   show (!comQ a b)=true
   rw [hc]
   rfl
  rw [hok] at this
  simpa using this
def okTb (t:List Pq):Bool:=decide (t.length=2) && okT1 t
theorem okT_of1 {t:List Pq} (h:okTb t=true):okT 1 t:=by
 unfold okTb okT1 at h
 simp only [Bool.and_eq_true,decide_eq_true_eq,List.all_eq_true] at h
 obtain ⟨h1,h2,h3⟩:=h
 match t,h1 with
 |[a,b],_ =>
  refine ⟨rfl,fun c hc=>h2 c hc,fun i k x y hik hx hy=>?_⟩
  have hk:k < 2:=(List.getElem?_eq_some_iff.1 hy).1
  obtain ⟨rfl,rfl⟩:i=0/\k=1:=by omega
  injection hx with hx
  injection hy with hy
  subst hx hy
  have h3':(!comQ a b)=true:=h3
  have:comQ a b=false:=by simpa using h3'
  rw [this]
  rfl
def chkW:Bool:=decide (allW.length=24) && (decide (allT.length=24) && ((List.range 24).all fun i=>decide (runT 1 (allW.getD i []) (idT 1)=allT.getD i []) && (decide (idxL (allT.getD i []) allT=i) && (okTb (allT.getD i []) && (decide (i < (bfsN i).1.length) && ((allW.getD i []).all (fun g=>kinds6.contains g.k && decide (g=g1 g.k)) && decide ((allW.getD i []).length<=4)))))))
theorem chkW_t:chkW=true:=by decide +kernel
theorem allW_at {i:Nat} (hi:i < 24):runT 1 (allW.getD i []) (idT 1)=allT.getD i []/\idxL (allT.getD i []) allT=i/\okT 1 (allT.getD i [])/\i < (bfsN i).1.length/\(∀ g ∈ allW.getD i [],kinds6.contains g.k=true/\g=g1 g.k)/\(allW.getD i []).length<=4:=by
 have h:=chkW_t
 unfold chkW at h
 simp only [Bool.and_eq_true,decide_eq_true_eq,List.all_eq_true] at h
 obtain ⟨_,_,h3⟩:=h
 obtain ⟨a1,a2,a3,a4,a5,a6⟩:=h3 i (List.mem_range.2 hi)
 exact ⟨a1,a2,okT_of1 a3,a4,fun g hg=>a5 g hg,a6⟩
theorem allT_len:allT.length=24:=by
 have h:=chkW_t
 unfold chkW at h
 simp only [Bool.and_eq_true,decide_eq_true_eq] at h
 exact h.2.1
theorem allW_len:allW.length=24:=by
 have h:=chkW_t
 unfold chkW at h
 simp only [Bool.and_eq_true,decide_eq_true_eq] at h
 exact h.1
attribute [irreducible] allT allW
theorem okT1_idx {t:List Pq} (h:okT 1 t):∃ i,i < 24/\t=allT.getD i []:=by
 obtain ⟨i,hi,e⟩:=List.mem_iff_getElem.1 (mem_allT h)
 rw [allT_len] at hi
 exact ⟨i,hi,by rw [List.getD_eq_getElem?_getD,List.getElem?_eq_getElem (by rw [allT_len];exact hi),<- e];rfl⟩
def coset (t:List Pq):Nat:=if (t.getD 1 ⟨0,0,0⟩).x=0 then 0 else if (t.getD 0 ⟨0,0,0⟩).x=0 then 1 else 2
def rep (k:Nat):List Gt:=if k=1 then [g1 4] else if k=2 then [g1 6,g1 4] else []
def invL (l:List Gt):List Gt:=l.reverse.map fun g=>⟨invK g.k,g.a,g.b,g.c⟩
def byT (n:Nat) (t:List Pq) (a:Pq):List Nat->Pq->Pq
 |[],o=>o
 |q :: r,o =>
  let o1:=if bitB a.x q=true then mulQ o (t.getD q ⟨0,0,0⟩) else o
  byT n t a r (if bitB a.z q=true then mulQ o1 (t.getD (q+n) ⟨0,0,0⟩) else o1)
def conjT (n:Nat) (t:List Pq) (a:Pq):Pq:=byT n t a (List.range n) ⟨0,0,a.p⟩
def behind (a b:List Pq):List Pq:=(List.range 2).map fun i=>conjT 1 b (a.getD i ⟨0,0,0⟩)
def dT (t:List Pq):List Pq :=
 let d:=behind (runT 1 (invL (rep (coset t))) (idT 1)) t
 if (d.getD 1 ⟨0,0,0⟩).p=2 then appT 1 (g1 5) d else d
abbrev Nf:=List Nat × List Pq
def nfT (s:Nf):Nf :=
 if coset s.2=0/\s.1 ≠ [] then (s.1.dropLast,behind (runT 1 (rep (s.1.getD (s.1.length - 1) 0)++[g1 5]) (idT 1)) (dT s.2)) else (s.1++[coset s.2],dT s.2)
def nfG (s:Nf) (k:Int):Nf:=if k=7 then nfT s else if k=8 then nfT (s.1,appT 1 (g1 6) s.2) else (s.1,appT 1 (g1 k) s.2)
def nfL:List Int->Nf->Nf
 |[],s=>s
 |k :: r,s=>nfL r (nfG s k)
def nfW (s:Nf):List Gt:=(s.1.flatMap fun k=>rep k++[g1 7])++cw s.2
def okSyl (l:List Nat):Prop:=∀ i k,l[i]? = some k->k<=2/\(0 < i->k ≠ 0)
def chkN1 (t:List Pq):Bool :=
 decide (runT 1 (invL (rep (coset t))++cw t) (idT 1)=behind (runT 1 (invL (rep (coset t))) (idT 1)) t) &&
 (okTb (behind (runT 1 (invL (rep (coset t))) (idT 1)) t) && (okTb (dT t) &&
 ((List.range 3).all (fun m=>decide (runT 1 (rep m++([g1 5]++cw (dT t))) (idT 1)=behind (runT 1 (rep m++[g1 5]) (idT 1)) (dT t)) && okTb (behind (runT 1 (rep m++[g1 5]) (idT 1)) (dT t))) &&
 (let y:=mulQ (mulQ ⟨0,0,0⟩ (t.getD 0 ⟨0,0,0⟩)) (t.getD 1 ⟨0,0,0⟩)
  decide (coset t=(if (t.getD 1 ⟨0,0,0⟩).x=0/\(t.getD 1 ⟨0,0,0⟩).z=1 then 0 else if (t.getD 0 ⟨0,0,0⟩).x=0/\(t.getD 0 ⟨0,0,0⟩).z=1 then 1 else 2)) && (decide (coset t<=2) && (!(decide (coset t=2)) || (y.x == 0 && y.z == 1)))))))
def chkNf:Bool:=(List.range 24).all fun i=>chkN1 (allT.getD i [])
theorem chkNf_t:chkNf=true:=by decide +kernel
theorem nf_facts {t:List Pq} (h:okT 1 t):chkN1 t=true:=by
 obtain ⟨i,hi,rfl⟩:=okT1_idx h
 exact List.all_eq_true.1 chkNf_t i (List.mem_range.2 hi)
theorem nf_d {t:List Pq} (h:okT 1 t):runT 1 (invL (rep (coset t))++cw t) (idT 1)=behind (runT 1 (invL (rep (coset t))) (idT 1)) t/\okT 1 (behind (runT 1 (invL (rep (coset t))) (idT 1)) t)/\okT 1 (dT t)/\coset t<=2:=by
 have:=nf_facts h
 unfold chkN1 at this
 simp only [Bool.and_eq_true,decide_eq_true_eq] at this
 obtain ⟨h1,h2,h3,_,_,h6,_⟩:=this
 exact ⟨h1,okT_of1 h2,okT_of1 h3,h6⟩
theorem nf_w {t:List Pq} (h:okT 1 t) {m:Nat} (hm:m < 3):runT 1 (rep m++([g1 5]++cw (dT t))) (idT 1)=behind (runT 1 (rep m++[g1 5]) (idT 1)) (dT t)/\okT 1 (behind (runT 1 (rep m++[g1 5]) (idT 1)) (dT t)):=by
 have:=nf_facts h
 unfold chkN1 at this
 simp only [Bool.and_eq_true,decide_eq_true_eq,List.all_eq_true] at this
 obtain ⟨_,_,_,h4,_⟩:=this
 obtain ⟨a,b⟩:=h4 m (List.mem_range.2 hm)
 exact ⟨a,okT_of1 b⟩
theorem g1_ok {k:Int} (h:1<=k/\k<=6):okN 1 (g1 k)=true/\cliff (g1 k).k=true:=by
 obtain rfl | rfl | rfl | rfl | rfl | rfl:k=1 ∨ k=2 ∨ k=3 ∨ k=4 ∨ k=5 ∨ k=6:=by omega
 all_goals exact ⟨by decide,by decide⟩
theorem idT1_ok:okT 1 (idT 1):=okT_of1 (by decide)
theorem okSyl_nil:okSyl []:=fun i k h=>by simp at h
theorem okSyl_drop {l:List Nat} (h:okSyl l):okSyl l.dropLast:=by
 intro i k hk
 rw [List.getElem?_dropLast] at hk
 split at hk
 ·exact h i k hk
 ·cases hk
theorem okSyl_app {l:List Nat} {k:Nat} (h:okSyl l) (hk:k<=2) (h0:k=0->l=[]):okSyl (l++[k]):=by
 intro i m hm
 by_cases hi:i < l.length
 ·rw [List.getElem?_append_left hi] at hm
  exact h i m hm
 ·rw [List.getElem?_append_right (by omega)] at hm
  have hi2:i - l.length=0:=by
   have:=(List.getElem?_eq_some_iff.1 hm).1
   simp at this
   omega
  rw [hi2] at hm
  injection hm with hm
  subst hm
  refine ⟨hk,fun hp e=>?_⟩
  rw [h0 e] at hi2
  simp at hi2
  omega
theorem nfT_ok {s:Nf} (h1:okSyl s.1) (h2:okT 1 s.2):okSyl (nfT s).1/\okT 1 (nfT s).2:=by
 obtain ⟨_,_,d3,d4⟩:=nf_d h2
 unfold nfT
 by_cases hc:coset s.2=0/\s.1 ≠ []
 ·rw [if_pos hc]
  have hl:s.1.length - 1 < s.1.length:=by
   cases e:s.1 with
   |nil=>exact absurd e hc.2
   |cons a r=>simp
  have hm:=(h1 (s.1.length - 1) _ (List.getElem?_eq_getElem hl)).1
  refine ⟨okSyl_drop h1,?_⟩
  rw [List.getD_eq_getElem?_getD,List.getElem?_eq_getElem hl,Option.getD_some]
  exact (nf_w h2 (by omega)).2
 ·rw [if_neg hc]
  refine ⟨okSyl_app h1 d4 fun e=>?_,d3⟩
  by_cases hn:s.1=[]
  ·exact hn
  ·exact absurd ⟨e,hn⟩ hc
theorem nfG_ok {s:Nf} {k:Int} (hk:1<=k/\k<=8) (h1:okSyl s.1) (h2:okT 1 s.2):okSyl (nfG s k).1/\okT 1 (nfG s k).2:=by
 unfold nfG
 split
 ·exact nfT_ok h1 h2
 ·split
  ·exact nfT_ok h1 (appT_ok (g1_ok (k:=6) (by omega)).1 (g1_ok (k:=6) (by omega)).2 h2)
  ·exact ⟨h1,appT_ok (g1_ok (by omega)).1 (g1_ok (by omega)).2 h2⟩
theorem nfL_ok:∀ (l:List Int) (s:Nf),(∀ k ∈ l,1<=k/\k<=8)->okSyl s.1->okT 1 s.2->okSyl (nfL l s).1/\okT 1 (nfL l s).2
 |[],s,_,h1,h2=>⟨h1,h2⟩
 |k :: r,s,h,h1,h2=>by
  obtain ⟨a,b⟩:=nfG_ok (h k (by simp)) h1 h2
  exact nfL_ok r _ (fun x hx=>h x (by simp [hx])) a b
def costR:List Gt->Nat
 |[]=>0
 |g :: r=>(if g.k=7 ∨ g.k=8 then 100 else 1)+costR r
def short0 (l:List Gt):List Gt:=nfW (nfL (l.map Gt.k) ([],idT 1))
def onA (a:Int) (g:Gt):Gt:=⟨g.k,a,g.b,g.c⟩
def shortR (l:List Gt):List Gt:=if costR l<=costR (short0 l) then l else (short0 l).map (onA (l.getD 0 (g1 0)).a)
def chkSh:Bool:=decide (costR (short0 [])=0) && [1,2,3,4,5,6,7,8].all fun k=>decide (costR [g1 k]<=costR (short0 [g1 k]))
theorem chkSh_t:chkSh=true:=by decide +kernel
theorem shortR_1 {l:List Gt} (h:l.length < 2) (hk:∀ g ∈ l,1<=g.k/\g.k<=8):shortR l=l:=by
 have hs:=chkSh_t
 unfold chkSh at hs
 simp only [Bool.and_eq_true,decide_eq_true_eq,List.all_eq_true] at hs
 unfold shortR
 match l,h with
 |[],_=>exact if_pos (Nat.zero_le _)
 |[g],_ =>
  have hg:=hk g (by simp)
  have hm:=hs.2 g.k (by simp;omega)
  rw [if_pos]
  have e1:costR [g]=costR [g1 g.k]:=rfl
  have e2:short0 [g]=short0 [g1 g.k]:=rfl
  rw [e1,e2]
  exact hm
abbrev RSt:=List Gt × List (List Gt)
def emitR (s:RSt) (q:Nat):RSt:=(s.1++shortR (s.2.getD q []),s.2.set q [])
def emitsR (s:RSt):List Nat->RSt
 |[]=>s
 |q :: r=>emitsR (emitR s q) r
def quN (g:Gt):List Nat:=(([g.a,g.b,g.c]:List Int).take (arity g.k).toNat).map Int.toNat
def runG (s:RSt) (g:Gt):RSt:=if arity g.k=1 then (s.1,s.2.set g.a.toNat (s.2.getD g.a.toNat []++[g])) else ((emitsR s (quN g)).1++[g],(emitsR s (quN g)).2)
def runsL:List Gt->RSt->RSt
 |[],s=>s
 |g :: r,s=>runsL r (runG s g)
def shortRs (l:List Gt) (n:Int):List Gt:=if (l.all fun g=>okG g.k g.a g.b g.c n)=true then (emitsR (runsL l ([],[[],[],[],[]])) [0,1,2,3]).1 else l
def MgSt (w0:World) (s:Nat) (g h:Gt) (wx:World):Prop:=Bx wx s 39 #[.int .i64 g.k,.int .i64 g.a,.int .i64 g.b,.int .i64 g.c]/\Bx wx (s+1) 39 #[.int .i64 h.k,.int .i64 h.a,.int .i64 h.b,.int .i64 h.c]/\Below w0.heap.size w0 wx
theorem MgSt.below {w0 wx w':World} {s:Nat} {g h:Gt} (t:MgSt w0 s g h wx) (hb:Below wx.heap.size wx w'):MgSt w0 s g h w':=⟨t.1.below hb,t.2.1.below hb,t.2.2.trans (hb.mono t.2.2.size)⟩
theorem MgSt.drew {w0 wx:World} {s:Nat} {g h:Gt} (t:MgSt w0 s g h wx):MgSt w0 s g h wx.drew:=⟨t.1,t.2.1,t.2.2.drew⟩
theorem MgSt.drewN {w0 wx:World} {s:Nat} {g h:Gt} (t:MgSt w0 s g h wx) (n:Nat):MgSt w0 s g h (wx.drewN n):=⟨t.1,t.2.1,below_drewN t.2.2 n⟩
def MgCells (s:Nat) (g h:Gt) (wx:World):Prop:=wx.cell? ⟨s,0,none⟩=some (.int .i64 g.k)/\wx.cell? ⟨s,1,none⟩=some (.int .i64 g.a)/\wx.cell? ⟨s,2,none⟩=some (.int .i64 g.b)/\wx.cell? ⟨s,3,none⟩=some (.int .i64 g.c)/\wx.cell? ⟨s+1,0,none⟩=some (.int .i64 h.k)/\wx.cell? ⟨s+1,1,none⟩=some (.int .i64 h.a)/\wx.cell? ⟨s+1,2,none⟩=some (.int .i64 h.b)/\wx.cell? ⟨s+1,3,none⟩=some (.int .i64 h.c)
theorem MgSt.cells {w0 wx:World} {s:Nat} {g h:Gt} (t:MgSt w0 s g h wx):MgCells s g h wx:=by
 obtain ⟨p0,p1,p2,p3,_⟩:=t.1.four
 obtain ⟨q0,q1,q2,q3,_⟩:=t.2.1.four
 exact ⟨p0,p1,p2,p3,q0,q1,q2,q3⟩
def MgRot (w:World) (g h:Gt) (v:Value) (wx:World):Prop:=∃ A c,v=.slice A (rotK (sumU g h)).length c/\wx.ownsRow w.heap.size 39 4 (.slice A (rotK (sumU g h)).length c) (rotK (sumU g h)).length (cellsG (rotG (sumU g h) g.a))/\MgSt w w.heap.size g h wx
theorem mg_start (w:World) (g h:Gt):MgSt w w.heap.size g h ((w.alloc (.cells #[.int .i64 g.k,.int .i64 g.a,.int .i64 g.b,.int .i64 g.c] 39)).alloc (.cells #[.int .i64 h.k,.int .i64 h.a,.int .i64 h.b,.int .i64 h.c] 39)) :=
 ⟨(Bx.new w _ _).alloc _,Bx.new' (by simp),((zW).alloc zR _).alloc (by simp) _⟩
set_option maxRecDepth 100000 in
theorem s_MergeGates (g h:Gt) (w:World):Calls Tryz.prog 141 #[.agg #[.int .i64 g.k,.int .i64 g.a,.int .i64 g.b,.int .i64 g.c],.agg #[.int .i64 h.k,.int .i64 h.a,.int .i64 h.b,.int .i64 h.c]] w (RetGB (mergeL g h) (mergeOk g h) w):=by
 have ST:=zH (mg_start w g h)
 have hM:Tryz.prog.eqGuardType Tryz.prog.depth 39=false:=by kernel_rfl
 go_enter Tryz.func141,Tryz.ntmps141
 go_upto_region 1 with fail
 obtain ⟨w0,hw0⟩:∃ w0,w0=(w.alloc (.cells #[.int .i64 g.k,.int .i64 g.a,.int .i64 g.b,.int .i64 g.c] 39)).alloc (.cells #[.int .i64 h.k,.int .i64 h.a,.int .i64 h.b,.int .i64 h.c] 39):=⟨_,rfl⟩
 rw [<- hw0] at ST ⊢
 clear hw0
 obtain ⟨p0,p1,p2,p3,q0,q1,q2,q3⟩:=ST.out.cells
 go_cut [21] (fun v wx=>v=.bool (mergeB g h)/\MgSt w w.heap.size g h wx)
 case first =>
  by_cases h0:0 < arity g.k
  ·have d0:decide (0 < arity g.k)=true:=by simpa using h0
   cases hi:isInv g h
   ·have HB:Hid (mergeB g h=alikeG g h):=by unfold Hid;simp [mergeB,h0,hi]
    have hE:∀ w,(Op.equalIn 10000 39 (.agg #[.int .i64 h.k,.int .i64 h.a,.int .i64 h.b,.int .i64 h.c]) (.agg #[.int .i64 (invK g.k),.int .i64 g.a,.int .i64 g.b,.int .i64 g.c])).run Tryz.prog w=.ok false w:=fun w=>by rw [eqGV];exact congrArg (fun b=>Result.ok b w) hi
    clear hi h0
    have U0:=ST.out.drew
    have HA:Hid (alike g.k g.a g.b h.k h.a h.b=alikeG g h):=rfl
    go_region_with (first
      |(go_at_call 60;(with_reducible refine (s_Arity _ _).mono ?_);rintro e w' ⟨rfl,rfl⟩)
      |(go_at_call 176;(with_reducible refine (s_alike _ _ _ _ _ _ _ _ _).mono ?_);rintro e w2 ⟨rfl,b2⟩;have U2:=U1.below b2)
      |(go_at_call 154;(with_reducible refine (s_InverseGate _ _ _ _ _).mono ?_);rintro e w1 ⟨rfl,b1⟩;have U1:=U0.below b1;obtain ⟨u0,u1,u2,u3,v0,v1,v2,v3⟩:=U1.cells))
    all_goals go_wp2_with fail
    all_goals go_meet
    all_goals exact ⟨by rw [HB.out,<- HA.out],U2⟩
   ·have HB:Hid (mergeB g h=true):=by unfold Hid;simp [mergeB,h0,hi]
    have hE:∀ w,(Op.equalIn 10000 39 (.agg #[.int .i64 h.k,.int .i64 h.a,.int .i64 h.b,.int .i64 h.c]) (.agg #[.int .i64 (invK g.k),.int .i64 g.a,.int .i64 g.b,.int .i64 g.c])).run Tryz.prog w=.ok true w:=fun w=>by rw [eqGV];exact congrArg (fun b=>Result.ok b w) hi
    clear hi h0
    have U0:=ST.out.drew
    go_region_with (first
      |(go_at_call 60;(with_reducible refine (s_Arity _ _).mono ?_);rintro e w' ⟨rfl,rfl⟩)
      |(go_at_call 154;(with_reducible refine (s_InverseGate _ _ _ _ _).mono ?_);rintro e w1 ⟨rfl,b1⟩;have U1:=U0.below b1;obtain ⟨u0,u1,u2,u3,v0,v1,v2,v3⟩:=U1.cells))
    all_goals go_wp2_with fail
    all_goals go_meet
    all_goals exact ⟨by rw [HB.out],U1⟩
  ·have d0:decide (0 < arity g.k)=false:=by simpa using h0
   have HB:Hid (mergeB g h=false):=by unfold Hid;simp [mergeB,h0]
   clear h0
   go_quiet ((go_at_call 60;exact quiet_left (s_Arity _ _)))
   go_wp2_with fail
   go_meet
   exact ⟨by rw [HB.out],MgSt.drewN ST.out _⟩
 case rest =>
  obtain ⟨rfl,T1⟩:=hcut
  obtain ⟨wd,rfl⟩:∃ wd,wd=wc:=⟨_,rfl⟩
  have XT:=zH T1
  clear T1 ST p0 p1 p2 p3 q0 q1 q2 q3
  obtain ⟨p0,p1,p2,p3,q0,q1,q2,q3⟩:=XT.out.cells
  have hg0:=units_bd g.k
  have hh0:=units_bd h.k
  cases hb:mergeB g h
  ·have HB:=zH hb
   clear hb
   have none_:∀ {wx:World},mergeL g h=[]/\mergeOk g h=false->Below w.heap.size w wx->RetGB (mergeL g h) (mergeOk g h) w (.returned (.tuple #[.slice (some ⟨wx.heap.size,0,none⟩) 0 0,.bool false])) (wx.alloc (.cells #[] 39)):=fun {wx} h1 h2=>by
    rw [h1.1,h1.2]
    exact ⟨_,_,rfl,World.ownsRow_lit wx #[] 0 h2.size (by simp [maxLen]) rfl |> fun o=>ownsRow_base o zR,h2.alloc h2.size _⟩
   cases hr:rotB g h
   ·have FIN:=zH (none_ (wx:=wd) (merge_no HB.out hr) XT.out.2.2)
    clear none_
    by_cases h1:0 < units g.k
    ·have d1:decide (0 < units g.k)=true:=by simpa using h1
     by_cases h2:0 < units h.k
     ·have d2:decide (0 < units h.k)=true:=by simpa using h2
      have e3:(g.a == h.a)=false:=by simpa [rotB,h1,h2] using hr
      clear hr
      go_wp2_with (go_at_call 102;(with_reducible refine (s_RotationUnits _ _).mono ?_);rintro e w' ⟨rfl,rfl⟩)
      go_ret2
      exact FIN.out
     ·have d2:decide (0 < units h.k)=false:=by simpa using h2
      clear hr
      go_wp2_with (go_at_call 102;(with_reducible refine (s_RotationUnits _ _).mono ?_);rintro e w' ⟨rfl,rfl⟩)
      go_ret2
      exact FIN.out
    ·have d1:decide (0 < units g.k)=false:=by simpa using h1
     clear hr
     go_wp2_with (go_at_call 102;(with_reducible refine (s_RotationUnits _ _).mono ?_);rintro e w' ⟨rfl,rfl⟩)
     go_ret2
     exact FIN.out
   ·have hr':0 < units g.k/\0 < units h.k/\g.a=h.a:=by simpa [rotB,and_assoc] using hr
    obtain ⟨h1,h2,h3⟩:=hr'
    have d1:decide (0 < units g.k)=true:=by simpa using h1
    have d2:decide (0 < units h.k)=true:=by simpa using h2
    have e3:(g.a == h.a)=true:=by simpa using h3
    have HR:=zH hr
    have hwr:IntKind.i64.wrap (units g.k+units h.k)=units g.k+units h.k:=by rw [IntKind.wrap_i64];omega
    have HS:Hid ((units g.k+units h.k) % 8=sumU g h):=rfl
    clear hr h3
    go_upto_region 4 with (go_at_call 102;(with_reducible refine (s_RotationUnits _ _).mono ?_);rintro e w' ⟨rfl,rfl⟩)
    go_cut [6] (fun v wx=>MgRot w g h v wx)
    case first =>
     have U0:=XT.out.drew
     have hs0:=XT.out.2.2.size
     go_region_held3 (fun w'=>w'.cell? ⟨w.heap.size,0,none⟩=some (.int .i64 g.k)/\w'.cell? ⟨w.heap.size,1,none⟩=some (.int .i64 g.a)/\w'.cell? ⟨w.heap.size+1,0,none⟩=some (.int .i64 h.k))
      (first | go_keep | exact ⟨U1.cells.1,U1.cells.2.1,U1.cells.2.2.2.2.1⟩)
      (first
       |(go_at_call 102;(with_reducible refine (s_RotationUnits _ _).mono ?_);rintro e w' ⟨rfl,rfl⟩)
       |(go_at_call 58;(with_reducible refine (s_l32Rest _ _).mono ?_);rintro e w' ⟨rfl,rfl⟩;rw [HS.out])
       |(go_at_call 104;(with_reducible refine (s_RotationGates _ _ _).mono ?_);rintro e w1 ⟨A1,c1,rfl,o1,b1⟩;have U1:=U0.below b1))
     all_goals go_wp2_with fail
     all_goals go_meet
     all_goals exact ⟨A1,c1,rfl,ownsRow_base o1 hs0,U1⟩
    case rest =>
     obtain ⟨A,c,rfl,own,T2⟩:=hcut
     have hl:=rotK_len (sumU g h)
     have hlG:=rotG_len (sumU g h) g.a
     obtain ⟨m,hm⟩:∃ m,(rotK (sumU g h)).length=m:=⟨_,rfl⟩
     have HM:=zH hm
     rw [hm] at hl own hlG
     rw [HM.out]
     have HL:=zH hlG
     have OWN:=zH own
     have TT:=zH T2
     clear hm own T2 hlG
     by_cases hm1:m<=1
     ·have hlt:(m:Int) < 2:=by omega
      have FIN:=zH (show RetGB (mergeL g h) (mergeOk g h) w (.returned (.tuple #[.slice A m c,.bool true])) wc from by
       obtain ⟨e1,e2⟩:=merge_rot HB.out HR.out (by rw [HM.out];exact hm1)
       rw [e1,e2]
       refine ⟨A,c,?_,?_,TT.out.2.2⟩
       ·rw [HL.out]
       ·rw [HL.out];exact OWN.out)
      go_wp2_with fail
      go_ret2
      exact FIN.out
     ·have hlt:¬ (m:Int) < 2:=by omega
      have FIN:=zH (none_ (wx:=wc) (merge_two HB.out (by rw [HM.out];exact hm1)) TT.out.2.2)
      clear none_
      go_wp2_with fail
      go_ret2
      exact FIN.out
  ·have FIN:=zH (show RetGB (mergeL g h) (mergeOk g h) w (.returned (.tuple #[.slice (some ⟨wd.heap.size,0,none⟩) 0 0,.bool true])) (wd.alloc (.cells #[] 39)) from by
    rw [(merge_yes hb).1,(merge_yes hb).2]
    exact ⟨_,_,rfl,World.ownsRow_lit wd #[] 0 XT.out.2.2.size (by simp [maxLen]) rfl |> fun o=>ownsRow_base o zR,XT.out.2.2.alloc XT.out.2.2.size _⟩)
   clear hb
   go_wp2_with fail
   go_ret2
   exact FIN.out
theorem und_grown {W w':World} {r:Option Nat} (h:W.drew.grownBy w' r):W.grownBy w' r:=⟨h.os,h.tape,h.output,h.size,h.block⟩
set_option maxRecDepth 100000 in
theorem s_IdP (n:Int) (w:World):Calls Tryz.prog 100 #[.int .i64 n] w (RetPoly (idP n).N (idP n).H (idP n).t (idP n).o w):=by
 cases hin:inB n 1 4
 ·have HI:=zH hin
  have he:idP n=Po.zero:=by unfold idP;rw [hin];rfl
  rw [he]
  clear he hin
  go_enter Tryz.func100,Tryz.ntmps100
  go_wp2_with fail
  refine (s_in _ _ _ _).mono ?_
  rintro e w' ⟨rfl,rfl⟩
  rw [HI.out]
  go_wp2_with fail
  refine bodyPost_ret (v:=.agg #[.int .i64 0,.int .i64 0,.slice none 0 0,.slice none 0 0]) (by simp [results,Tryz.results100,go_sem]) rfl ⟨_,rfl,⟨none,0,none,0,rfl,World.ownsRow_nil _ _ _ _,World.ownsRow_nil _ _ _ _⟩,?_⟩
  exact (by repeat (first | exact zW | assumption | refine Below.drew ?_ | refine Below.alloc ?_ (by simp<;>omega) _))
 ·obtain ⟨h1,h4⟩:=inB_iff.1 hin
  obtain ⟨m,rfl⟩:∃ m:Nat,n=m:=⟨n.toNat,by omega⟩
  have HI:=zH hin
  have he:idP m=⟨m,0,[],idO m⟩:=by unfold idP;rw [hin];rfl
  rw [he]
  clear he hin
  have X1:=zH (show Bx ((w.alloc (.cells #[.int .i64 0,.int .i64 0,.slice none 0 0,.slice none 0 0] 88)).alloc (.cells #[.int .i64 (m:Int),.int .i64 0,.slice none 0 0,.slice none 0 0] 88)) w.heap.size 88 _ from (Bx.new w _ _).alloc _)
  have X2:=zH (show Bx ((w.alloc (.cells #[.int .i64 0,.int .i64 0,.slice none 0 0,.slice none 0 0] 88)).alloc (.cells #[.int .i64 (m:Int),.int .i64 0,.slice none 0 0,.slice none 0 0] 88)) (w.heap.size+1) 88 _ from Bx.new' (by simp))
  have BZ:Hid (Below w.heap.size w ((w.alloc (.cells #[.int .i64 0,.int .i64 0,.slice none 0 0,.slice none 0 0] 88)).alloc (.cells #[.int .i64 (m:Int),.int .i64 0,.slice none 0 0,.slice none 0 0] 88))):=zH (((zW).alloc zR _).alloc (by simp) _)
  have hz2:(Value.agg #[.int .i64 0,.int .i64 0]).cells.size=2:=rfl
  go_enter Tryz.func100,Tryz.ntmps100
  go_wp2_with fail
  refine (s_in _ _ _ _).mono ?_
  rintro e w' ⟨rfl,rfl⟩
  rw [HI.out]
  go_wp2_with fail
  go_loopg [4] m (fun r i wr=>∃ (k:Nat) (A0:Option Addr) (c0:Nat),k+r=m/\i=.int .i64 k/\Bx wr w.heap.size 88 #[.int .i64 0,.int .i64 0,.slice none 0 0,.slice none 0 0]/\Bx wr (w.heap.size+1) 88 #[.int .i64 (m:Int),.int .i64 0,.slice none 0 0,.slice A0 k c0]/\wr.ownsRow (w.heap.size+1+1) 93 2 (.slice A0 k c0) k (cellsP (idO k))/\Below w.heap.size w wr/\w.heap.size+1+1<=wr.heap.size)
  case atStart=>exact ⟨0,none,0,by omega,rfl,X1.out,X2.out,World.ownsRow_nil _ _ _ _,BZ.out,X2.out.lt⟩
  case round =>
   clear X1 X2 BZ
   obtain ⟨k,A0,c0,hk,rfl,hx1,hx2,ho,hb,hsz⟩:=hrel
   have HX1:=zH hx1
   have HX2:=zH hx2
   have HO:=zH ho
   have HB:=zH hb
   clear hx1 hx2 ho hb
   obtain ⟨p0,p1,p2,p3,f0,f1,f2,f3⟩:=HX2.out.four
   have n0:w.heap.size+1 < wr.heap.size:=HX2.out.lt
   by_cases hlt:k < m
   ·have hcase:k=0 ∨ k=1 ∨ k=2 ∨ k=3:=by omega
    have END:∀ (v:Int) (w5:World) (A5:Option Addr) (c5:Nat),v=2 ^ k->w5.ownsRow (w.heap.size+1+1) 93 2 (.slice A5 (k+1) c5) (k+1) (cellsP (idO k)++[.int .i64 v,.int .i64 0])->(wr.alloc (.cells #[.int .i64 v,.int .i64 0] 93)).grownBy w5 (Value.slice A0 k c0).ownBlock->Hid (Bx w5 (w.heap.size+1) 88 #[.int .i64 (m:Int),.int .i64 0,.slice none 0 0,.slice A0 k c0])/\Hid (Bx (w5.setCell ⟨w.heap.size+1,3,none⟩ (.slice A5 (k+1) c5)) w.heap.size 88 #[.int .i64 0,.int .i64 0,.slice none 0 0,.slice none 0 0]/\Bx (w5.setCell ⟨w.heap.size+1,3,none⟩ (.slice A5 (k+1) c5)) (w.heap.size+1) 88 #[.int .i64 (m:Int),.int .i64 0,.slice none 0 0,.slice A5 (k+1) c5]/\(w5.setCell ⟨w.heap.size+1,3,none⟩ (.slice A5 (k+1) c5)).ownsRow (w.heap.size+1+1) 93 2 (.slice A5 (k+1) c5) (k+1) (cellsP (idO (k+1)))/\Below w.heap.size w (w5.setCell ⟨w.heap.size+1,3,none⟩ (.slice A5 (k+1) c5))/\w.heap.size+1+1<=(w5.setCell ⟨w.heap.size+1,3,none⟩ (.slice A5 (k+1) c5)).heap.size):=by
     rintro v w5 A5 c5 rfl o5 g5
     have oa:=HO.out.alloc (.cells #[.int .i64 (2 ^ k),.int .i64 0] 93)
     have y1:=kept_app oa g5 (HX1.out.alloc _) (by decide)
     have y2:=kept_app oa g5 (HX2.out.alloc _) (by decide)
     have hs:=g5.size
     simp only [World.size_alloc] at hs
     refine ⟨zH y2,zH ⟨y1.far (by simp) _,y2.s3 _,own_set (by rw [idO_snoc,cellsP_append];exact o5) (by show w.heap.size+1 < _;omega) _,(below_grown (HB.out.alloc (by omega) _) (by simp;omega) oa (by omega) g5).setCell (by simp) _,by simp [World.setCell];omega⟩⟩
    have OA:∀ v:Int,Hid ((wr.alloc (.cells #[.int .i64 v,.int .i64 0] 93)).ownsRow (w.heap.size+1+1) 93 2 (.slice A0 k c0) k (cellsP (idO k))):=fun v=>zH (HO.out.alloc _)
    have EN:=zH END
    clear END
    rcases hcase with rfl | rfl | rfl | rfl
    ·have OV:=OA 1
     clear OA
     go_wp2_with (at_builtin;refine wpList_app rfl (.tmp 17) (.tmp 22) 86 rfl Tryz.underlying86 infoAffineForm rfl (by decide) rfl OV.out rfl (Rd.lit _ 93 #[.int .i64 1,.int .i64 0] 1 2 rfl) (by simp [Value.oneCell']) (by omega) (by decide) (by simp<;>omega) ?_;intro A5 c5 w5 o5 g5;have ⟨Y2,YE⟩:=EN.out 1 w5 A5 c5 rfl o5 g5;have ⟨q0,q1,q2,q3,e0,e1,e2,e3⟩:=Y2.out.four)
     go_roundg (gk - 1)
     all_goals first
      |omega
      |exact ⟨1,A5,c5,by omega,by go_num,YE.out⟩
    ·have OV:=OA 2
     clear OA
     go_wp2_with (at_builtin;refine wpList_app rfl (.tmp 17) (.tmp 22) 86 rfl Tryz.underlying86 infoAffineForm rfl (by decide) rfl OV.out rfl (Rd.lit _ 93 #[.int .i64 2,.int .i64 0] 1 2 rfl) (by simp [Value.oneCell']) (by omega) (by decide) (by simp<;>omega) ?_;intro A5 c5 w5 o5 g5;have ⟨Y2,YE⟩:=EN.out 2 w5 A5 c5 rfl o5 g5;have ⟨q0,q1,q2,q3,e0,e1,e2,e3⟩:=Y2.out.four)
     go_roundg (gk - 1)
     all_goals first
      |omega
      |exact ⟨2,A5,c5,by omega,by go_num,YE.out⟩
    ·have OV:=OA 4
     clear OA
     go_wp2_with (at_builtin;refine wpList_app rfl (.tmp 17) (.tmp 22) 86 rfl Tryz.underlying86 infoAffineForm rfl (by decide) rfl OV.out rfl (Rd.lit _ 93 #[.int .i64 4,.int .i64 0] 1 2 rfl) (by simp [Value.oneCell']) (by omega) (by decide) (by simp<;>omega) ?_;intro A5 c5 w5 o5 g5;have ⟨Y2,YE⟩:=EN.out 4 w5 A5 c5 rfl o5 g5;have ⟨q0,q1,q2,q3,e0,e1,e2,e3⟩:=Y2.out.four)
     go_roundg (gk - 1)
     all_goals first
      |omega
      |exact ⟨3,A5,c5,by omega,by go_num,YE.out⟩
    ·have OV:=OA 8
     clear OA
     go_wp2_with (at_builtin;refine wpList_app rfl (.tmp 17) (.tmp 22) 86 rfl Tryz.underlying86 infoAffineForm rfl (by decide) rfl OV.out rfl (Rd.lit _ 93 #[.int .i64 8,.int .i64 0] 1 2 rfl) (by simp [Value.oneCell']) (by omega) (by decide) (by simp<;>omega) ?_;intro A5 c5 w5 o5 g5;have ⟨Y2,YE⟩:=EN.out 8 w5 A5 c5 rfl o5 g5;have ⟨q0,q1,q2,q3,e0,e1,e2,e3⟩:=Y2.out.four)
     go_roundg (gk - 1)
     all_goals first
      |omega
      |exact ⟨4,A5,c5,by omega,by go_num,YE.out⟩
   ·obtain rfl:k=m:=by omega
    obtain ⟨q0,q1,q2,q3,e0,e1,e2,e3⟩:=HX1.out.four
    go_wp2_with fail
    refine bodyPost_ret (v:=.agg #[.int .i64 (k:Int),.int .i64 0,.slice none 0 0,.slice A0 k c0]) (by simp [results,Tryz.results100,go_sem,q0,q1,q2,q3]) rfl ⟨_,rfl,⟨none,0,A0,c0,by rw [idO_len];rfl,World.ownsRow_nil _ _ _ _,?_⟩,?_⟩
    ·rw [idO_len]
     exact ownsRow_base (own_set4 HO.out (by omega)) (by omega)
    ·exact below_set4 HB.out zR
set_option maxRecDepth 100000 in
theorem i_IdP (n:Int) (w:World):Calls Tryz.prog 78 #[.int .i64 n] w (RetPoly (idP n).N (idP n).H (idP n).t (idP n).o w):=by
 cases hin:inB n 1 4
 ·have HI:=zH hin
  have he:idP n=Po.zero:=by unfold idP;rw [hin];rfl
  rw [he]
  clear he hin
  go_enter Tryz.func78,Tryz.ntmps78
  go_wp2_with fail
  refine (i_in _ _ _ _).mono ?_
  rintro e w' ⟨rfl,rfl⟩
  rw [HI.out]
  go_wp2_with fail
  refine bodyPost_ret (v:=.agg #[.int .i64 0,.int .i64 0,.slice none 0 0,.slice none 0 0]) (by simp [results,Tryz.results78,go_sem]) rfl ⟨_,rfl,⟨none,0,none,0,rfl,World.ownsRow_nil _ _ _ _,World.ownsRow_nil _ _ _ _⟩,?_⟩
  exact (by repeat (first | exact zW | assumption | refine Below.drew ?_ | refine Below.alloc ?_ (by simp<;>omega) _))
 ·obtain ⟨h1,h4⟩:=inB_iff.1 hin
  obtain ⟨m,rfl⟩:∃ m:Nat,n=m:=⟨n.toNat,by omega⟩
  have HI:=zH hin
  have he:idP m=⟨m,0,[],idO m⟩:=by unfold idP;rw [hin];rfl
  rw [he]
  clear he hin
  have X1:=zH (show Bx ((w.alloc (.cells #[.int .i64 0,.int .i64 0,.slice none 0 0,.slice none 0 0] 88)).alloc (.cells #[.int .i64 (m:Int),.int .i64 0,.slice none 0 0,.slice none 0 0] 88)) w.heap.size 88 _ from (Bx.new w _ _).alloc _)
  have X2:=zH (show Bx ((w.alloc (.cells #[.int .i64 0,.int .i64 0,.slice none 0 0,.slice none 0 0] 88)).alloc (.cells #[.int .i64 (m:Int),.int .i64 0,.slice none 0 0,.slice none 0 0] 88)) (w.heap.size+1) 88 _ from Bx.new' (by simp))
  have BZ:Hid (Below w.heap.size w ((w.alloc (.cells #[.int .i64 0,.int .i64 0,.slice none 0 0,.slice none 0 0] 88)).alloc (.cells #[.int .i64 (m:Int),.int .i64 0,.slice none 0 0,.slice none 0 0] 88))):=zH (((zW).alloc zR _).alloc (by simp) _)
  have hz2:(Value.agg #[.int .i64 0,.int .i64 0]).cells.size=2:=rfl
  go_enter Tryz.func78,Tryz.ntmps78
  go_wp2_with fail
  refine (i_in _ _ _ _).mono ?_
  rintro e w' ⟨rfl,rfl⟩
  rw [HI.out]
  go_wp2_with fail
  go_loopg [4] m (fun r i wr=>∃ (k:Nat) (A0:Option Addr) (c0:Nat),k+r=m/\i=.int .i64 k/\Bx wr w.heap.size 88 #[.int .i64 0,.int .i64 0,.slice none 0 0,.slice none 0 0]/\Bx wr (w.heap.size+1) 88 #[.int .i64 (m:Int),.int .i64 0,.slice none 0 0,.slice A0 k c0]/\wr.ownsRow (w.heap.size+1+1) 93 2 (.slice A0 k c0) k (cellsP (idO k))/\Below w.heap.size w wr/\w.heap.size+1+1<=wr.heap.size)
  case atStart=>exact ⟨0,none,0,by omega,rfl,X1.out,X2.out,World.ownsRow_nil _ _ _ _,BZ.out,X2.out.lt⟩
  case round =>
   clear X1 X2 BZ
   obtain ⟨k,A0,c0,hk,rfl,hx1,hx2,ho,hb,hsz⟩:=hrel
   have HX1:=zH hx1
   have HX2:=zH hx2
   have HO:=zH ho
   have HB:=zH hb
   clear hx1 hx2 ho hb
   obtain ⟨p0,p1,p2,p3,f0,f1,f2,f3⟩:=HX2.out.four
   have n0:w.heap.size+1 < wr.heap.size:=HX2.out.lt
   by_cases hlt:k < m
   ·have hcase:k=0 ∨ k=1 ∨ k=2 ∨ k=3:=by omega
    have END:∀ (v:Int) (w5:World) (A5:Option Addr) (c5:Nat),v=2 ^ k->w5.ownsRow (w.heap.size+1+1) 93 2 (.slice A5 (k+1) c5) (k+1) (cellsP (idO k)++[.int .i64 v,.int .i64 0])->(wr.alloc (.cells #[.int .i64 v,.int .i64 0] 93)).grownBy w5 (Value.slice A0 k c0).ownBlock->Hid (Bx w5 (w.heap.size+1) 88 #[.int .i64 (m:Int),.int .i64 0,.slice none 0 0,.slice A0 k c0])/\Hid (Bx (w5.setCell ⟨w.heap.size+1,3,none⟩ (.slice A5 (k+1) c5)) w.heap.size 88 #[.int .i64 0,.int .i64 0,.slice none 0 0,.slice none 0 0]/\Bx (w5.setCell ⟨w.heap.size+1,3,none⟩ (.slice A5 (k+1) c5)) (w.heap.size+1) 88 #[.int .i64 (m:Int),.int .i64 0,.slice none 0 0,.slice A5 (k+1) c5]/\(w5.setCell ⟨w.heap.size+1,3,none⟩ (.slice A5 (k+1) c5)).ownsRow (w.heap.size+1+1) 93 2 (.slice A5 (k+1) c5) (k+1) (cellsP (idO (k+1)))/\Below w.heap.size w (w5.setCell ⟨w.heap.size+1,3,none⟩ (.slice A5 (k+1) c5))/\w.heap.size+1+1<=(w5.setCell ⟨w.heap.size+1,3,none⟩ (.slice A5 (k+1) c5)).heap.size):=by
     rintro v w5 A5 c5 rfl o5 g5
     have oa:=HO.out.alloc (.cells #[.int .i64 (2 ^ k),.int .i64 0] 93)
     have y1:=kept_app oa g5 (HX1.out.alloc _) (by decide)
     have y2:=kept_app oa g5 (HX2.out.alloc _) (by decide)
     have hs:=g5.size
     simp only [World.size_alloc] at hs
     refine ⟨zH y2,zH ⟨y1.far (by simp) _,y2.s3 _,own_set (by rw [idO_snoc,cellsP_append];exact o5) (by show w.heap.size+1 < _;omega) _,(below_grown (HB.out.alloc (by omega) _) (by simp;omega) oa (by omega) g5).setCell (by simp) _,by simp [World.setCell];omega⟩⟩
    have OA:∀ v:Int,Hid ((wr.alloc (.cells #[.int .i64 v,.int .i64 0] 93)).drew.ownsRow (w.heap.size+1+1) 93 2 (.slice A0 k c0) k (cellsP (idO k))):=fun v=>zH (HO.out.alloc _)
    have EN:=zH END
    clear END
    rcases hcase with rfl | rfl | rfl | rfl
    ·have OV:=OA 1
     clear OA
     have hw:IntKind.i64.wrap 1=1:=by decide
     go_wp2_with fail
     go_region_law (first
      |(refine step_app (by rfl) (.tmp 17) (.tmp 21) 86 (by rfl) Tryz.underlying86 infoAffineForm hz2 (by decide) (by simp [Act.eval]<;>rfl) OV.out (by simp [Act.eval]<;>rfl) (Rd.drew (Rd.lit wr 93 #[.int .i64 1,.int .i64 0] 1 2 rfl)) (by simp [Value.oneCell']) (by omega) (by decide) (by simp<;>omega) ?_;intro A5 c5 w5 o5 g5;have ⟨Y2,YE⟩:=EN.out 1 w5 A5 c5 rfl o5 (und_grown g5);have ⟨q0,q1,q2,q3,e0,e1,e2,e3⟩:=Y2.out.four))
     all_goals go_wp2_with fail
     all_goals go_roundg (gk - 1)
     all_goals first
      |omega
      |exact ⟨1,A5,c5,by omega,by go_num,YE.out⟩
    ·have OV:=OA 2
     clear OA
     have hw:IntKind.i64.wrap 2=2:=by decide
     go_wp2_with fail
     go_region_law (first
      |(refine step_app (by rfl) (.tmp 17) (.tmp 21) 86 (by rfl) Tryz.underlying86 infoAffineForm hz2 (by decide) (by simp [Act.eval]<;>rfl) OV.out (by simp [Act.eval]<;>rfl) (Rd.drew (Rd.lit wr 93 #[.int .i64 2,.int .i64 0] 1 2 rfl)) (by simp [Value.oneCell']) (by omega) (by decide) (by simp<;>omega) ?_;intro A5 c5 w5 o5 g5;have ⟨Y2,YE⟩:=EN.out 2 w5 A5 c5 rfl o5 (und_grown g5);have ⟨q0,q1,q2,q3,e0,e1,e2,e3⟩:=Y2.out.four))
     all_goals go_wp2_with fail
     all_goals go_roundg (gk - 1)
     all_goals first
      |omega
      |exact ⟨2,A5,c5,by omega,by go_num,YE.out⟩
    ·have OV:=OA 4
     clear OA
     have hw:IntKind.i64.wrap 4=4:=by decide
     go_wp2_with fail
     go_region_law (first
      |(refine step_app (by rfl) (.tmp 17) (.tmp 21) 86 (by rfl) Tryz.underlying86 infoAffineForm hz2 (by decide) (by simp [Act.eval]<;>rfl) OV.out (by simp [Act.eval]<;>rfl) (Rd.drew (Rd.lit wr 93 #[.int .i64 4,.int .i64 0] 1 2 rfl)) (by simp [Value.oneCell']) (by omega) (by decide) (by simp<;>omega) ?_;intro A5 c5 w5 o5 g5;have ⟨Y2,YE⟩:=EN.out 4 w5 A5 c5 rfl o5 (und_grown g5);have ⟨q0,q1,q2,q3,e0,e1,e2,e3⟩:=Y2.out.four))
     all_goals go_wp2_with fail
     all_goals go_roundg (gk - 1)
     all_goals first
      |omega
      |exact ⟨3,A5,c5,by omega,by go_num,YE.out⟩
    ·have OV:=OA 8
     clear OA
     have hw:IntKind.i64.wrap 8=8:=by decide
     go_wp2_with fail
     go_region_law (first
      |(refine step_app (by rfl) (.tmp 17) (.tmp 21) 86 (by rfl) Tryz.underlying86 infoAffineForm hz2 (by decide) (by simp [Act.eval]<;>rfl) OV.out (by simp [Act.eval]<;>rfl) (Rd.drew (Rd.lit wr 93 #[.int .i64 8,.int .i64 0] 1 2 rfl)) (by simp [Value.oneCell']) (by omega) (by decide) (by simp<;>omega) ?_;intro A5 c5 w5 o5 g5;have ⟨Y2,YE⟩:=EN.out 8 w5 A5 c5 rfl o5 (und_grown g5);have ⟨q0,q1,q2,q3,e0,e1,e2,e3⟩:=Y2.out.four))
     all_goals go_wp2_with fail
     all_goals go_roundg (gk - 1)
     all_goals first
      |omega
      |exact ⟨4,A5,c5,by omega,by go_num,YE.out⟩
   ·obtain rfl:k=m:=by omega
    obtain ⟨q0,q1,q2,q3,e0,e1,e2,e3⟩:=HX1.out.four
    go_wp2_with fail
    refine bodyPost_ret (v:=.agg #[.int .i64 (k:Int),.int .i64 0,.slice none 0 0,.slice A0 k c0]) (by simp [results,Tryz.results78,go_sem,q0,q1,q2,q3]) rfl ⟨_,rfl,⟨none,0,A0,c0,by rw [idO_len];rfl,World.ownsRow_nil _ _ _ _,?_⟩,?_⟩
    ·rw [idO_len]
     exact ownsRow_base (own_set4 HO.out (by omega)) (by omega)
    ·exact below_set4 HB.out zR
end Go.Proofs.YtmenmibfkojnoaaGreat
