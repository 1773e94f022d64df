/- Contract of TableauApplyGate (impl), for. -/
import Derived.Test.YtmenmibfkojnoaaGreatY19
import Derived.Test.YtmenmibfkojnoaaGreatY14
set_option maxHeartbeats 16000000
set_option maxRecDepth 100000
namespace Go.Proofs.YtmenmibfkojnoaaGreat
open Go.RowKit
set_option linter.unusedVariables false
theorem db {α:Type} {l:List α} {k:Nat} {a:α} (h:l[k]? = some a):l.take (k+1)=l.take k++[a]:=by
 rw [List.take_add_one,h];rfl
theorem j7 (n m c:Nat) (A:Option Addr) (r:List Pq) (g:Gt) (w:World) (hn:1<=n/\n<=4) (hr:RdG w A m (dP n r)) (hc:m<=c) (hok:ed n r) (hg:bF n g=true) (hcl:bh g.k=true) :
  Calls Tryz.prog 115 #[.agg #[n,.slice A m c],.agg #[g.k,g.a,g.b,g.c]] w (rZ n m (di n g r) w):=by
 have hm:m=2 * n:=by rw [<- hr.1,ep,hok.1]
 obtain ⟨b,off,rfl⟩:=hr.first zO;have T0:=zH (show Bx (((w.alloc (.cells #[n,.slice (some ⟨b,off,none⟩) m c] 73)).alloc g).alloc ZO.zT) w.heap.size 73 _ from ((Bx.new w _ _).alloc _).alloc _);have G0:=zH (show Bx (((w.alloc (.cells #[n,.slice (some ⟨b,off,none⟩) m c] 73)).alloc g).alloc ZO.zT) (w.heap.size+1) 39 _ from (Bx.new' zI).alloc _);have R0:=zH (show Bx (((w.alloc (.cells #[n,.slice (some ⟨b,off,none⟩) m c] 73)).alloc g).alloc ZO.zT) (w.heap.size+1+1) 73 _ from Bx.new' zI);have B0:=zH (show Below w w (((w.alloc (.cells #[n,.slice (some ⟨b,off,none⟩) m c] 73)).alloc g).alloc ZO.zT) from (((zW).alloc zR _).alloc zI _).alloc zS _);have HW:=zH hr;have HR:=zH hok;have HL:=zH (show r.length=m by rw [hok.1,hm]);have HG:=zH hg;have HC:=zH hcl;have hm8:m<=8:=zO;clear hr hok hm hg hcl;have t0:=T0.cell 0;have t1:=T0.cell 1;go_enter Tryz.func115,Tryz.ntmps115;go_wp2_with fail
 refine (nU n m c _ r _ hn (HW.below B0) hc HR).mono ?_;rintro e w1 ⟨rfl,b1⟩;have T1:=zH ((T0.below b1).alloc (.cells #[n,.slice none 0 0] 73));have G1:=zH ((G0.below b1).alloc (.cells #[n,.slice none 0 0] 73));have R1:=zH ((R0.below b1).alloc (.cells #[n,.slice none 0 0] 73));have hO:w.heap.size+1+1 < w1.heap.size:=(R0.below b1).lt;have M1:=zH (show MB w n w1.heap.size 0 none 0 [] (w1.alloc (.cells #[n,.slice none 0 0] 73)) from ⟨Bx.new _ _ _,World.ownsRow_nil _ _ _ _,(aa B0.out b1).alloc zO _,zO,zI⟩);have s0:=(T0.below b1).cell 0;have s1:=T1.cell 1;clear b1 t0 t1 T0 G0 R0 B0;obtain ⟨O,hO2⟩:∃ O,O=w1.heap.size:=⟨_,rfl⟩;go_wp2_with fail;rw [<- hO2] at M1 hO ⊢;clear hO2
 go_loopg [21] m (fun q i wr=>∃ (k:Nat) (A0:Option Addr) (c0:Nat),k+q=m/\i=.int .i64 k/\Bx wr w 73 #[n,.slice (some ⟨b,off,none⟩) m c]/\Bx wr (w.heap.size+1) 39 #[g.k,g.a,g.b,g.c]/\Bx wr (w.heap.size+1+1) 73 #[(0:Int),.slice none 0 0]/\MB w n O k A0 c0 (di n g (r.take k)) wr)
 case atStart=>exact ⟨0,none,0,zO,rfl,T1.out,G1.out,R1.out,M1.out⟩
 case round =>
  clear T1 G1 R1 M1 s0 s1;obtain ⟨k,A0,c0,hk,rfl,hT,hG,hRr,hM⟩:=hrel;by_cases hlt:k < m
  ·obtain ⟨a,ha⟩:=aV (l:=r) (k:=k) (by rw [HL.out];exact hlt);obtain ⟨hb,y0,y1,y2,y3⟩:=(HW.below hM.2.2.1).cellsAt (aE ha);have OK:=zH (io HR.out ha).1;have HS:=zH (show di n g (r.take (k+1))=di n g (r.take k)++[eP n g a] by rw [db ha];unfold di;simp);obtain ⟨d,hd⟩:∃ d,eP n g a=d:=⟨_,rfl⟩;rw [hd] at HS;have HD:=zH hd;have T2:=zH (hT.alloc (.cells #[n,a.x,a.z,a.p] 151));have G2:=zH (hG.alloc (.cells #[n,a.x,a.z,a.p] 151));have R2:=zH (hRr.alloc (.cells #[n,a.x,a.z,a.p] 151));have M2:=zH (hM.alloc (.cells #[n,a.x,a.z,a.p] 151));obtain ⟨g0,g1,g2,g3,_⟩:=G2.four;clear ha hT hG hRr hM hd;simp only [pg] at y0 y1 y2 y3;go_wp2_with fail;refine (Fm n a d g _ hn OK HG HC HD).mono ?_;rintro e w5 ⟨rfl,b5⟩;have T3:=zH (((T2.below b5).alloc (.cells #[n,d.x,d.z,d.p] 151)).alloc (.cells #[n,d.x,d.z,d.p] 151))
   have G3:=zH (((G2.below b5).alloc (.cells #[n,d.x,d.z,d.p] 151)).alloc (.cells #[n,d.x,d.z,d.p] 151));have R3:=zH (((R2.below b5).alloc (.cells #[n,d.x,d.z,d.p] 151)).alloc (.cells #[n,d.x,d.z,d.p] 151));have M3:=zH (((M2.below b5).alloc (.cells #[n,d.x,d.z,d.p] 151)).alloc (.cells #[n,d.x,d.z,d.p] 151));have OV:=zH M3.out.2.1;have m1:=((M2.below b5).alloc (.cells #[n,d.x,d.z,d.p] 151)).1.cell 1;have hO5:O < w5.heap.size:=(M2.below b5).2.2.2.2;clear T2 G2 R2 M2 b5 g0 g1 g2 g3 y0 y1 y2 y3 hb
   go_wp2_with (at_builtin;refine ah rfl (.tmp 35) (.tmp 37) 71 rfl Tryz.underlying71 fc rfl zD rfl OV.out rfl (vG _ _ 151 #[n,d.x,d.z,d.p] 1 4 rfl) zV zO zD zS ?_;intro A5 c5 w5' o5 g5;have Y5:=(M3.grown g5).two;obtain ⟨e0,e1,e2,e3⟩:=Y5)
   go_roundg (gk - 1)
   all_goals first
    |omega
    |exact ⟨k+1,A5,c5,zO,by go_num,M3.keeps g5 T3.out zO,M3.keeps g5 G3.out zO,M3.keeps g5 R3.out zO,by rw [HS.out];exact M3.push g5 o5⟩
  ·obtain rfl:k=m:=zO;obtain ⟨e0,e1⟩:=hM.cells;obtain ⟨r0,r1,r2,r3⟩:=hRr.two;have hrs:r.take k=r:=List.take_of_length_le (by rw [HL.out];exact zR);rw [hrs] at hM;have MM:=zH hM;have RR:=zH hRr;clear hM hrs hRr;go_wp2_with fail;have RB:=RR.out
   with_reducible refine eD RB ?_ ?_ ⟨A0,c0,rfl,?_,?_⟩
   ·intro wS z0 z1;simp [results,Tryz.results115,go_sem,z0,z1]
   ·rfl
   ·exact ae (yz MM.out.2.1 zO _ _) zO
   ·exact ay MM.out.2.2.1 zO _ _
def g1 (k:Int):Gt:=⟨k,0,0,0⟩
def kinds6:List Int:=[1,2,3,4,5,6]
abbrev Dt:=List (List Gt) × List (List Pq)
def gZ (s:Dt) (i:Nat) (k:Int):Dt :=
 if s.2.contains (di 1 (g1 k) (s.2.getD i []))=true then s else (s.1++[s.1.getD i []++[g1 k]],s.2++[di 1 (g1 k) (s.2.getD i [])])
def se (s:Dt) (i:Nat):List Int->Dt
 |[]=>s
 |k :: r=>se (gZ s i k) i r
def dw:Nat->Dt
 |0=>([[]],[ch 1])
 |i+1=>se (dw i) i kinds6
def allW:List (List Gt):=(dw 24).1
def allT:List (List Pq):=(dw 24).2
def I0 {α:Type} [DecidableEq α] (a:α):List α->Nat
 |[]=>0
 |b :: r=>if b=a then 0 else I0 a r+1
def cw (t:List Pq):List Gt:=allW.getD (I0 t allT) []
def pauli1:List Pq:=(List.range 2).flatMap fun x=>(List.range 2).flatMap fun z=>(List.range 4).map fun p=>⟨x,z,p⟩
def I5 (t:List Pq):Bool:=t.all (fun a=>ci 1 a && kW a) && !il (t.getD 0 ⟨0,0,0⟩) (t.getD 1 ⟨0,0,0⟩)
def RK:Bool:=pauli1.all fun a=>pauli1.all fun b=>!(I5 [a,b]) || allT.contains [a,b]
theorem I6:RK=true:=by decide +kernel
theorem sf {a:Pq} (h:ci 1 a=true):a ∈ pauli1:=by
 obtain ⟨h1,h2,h3⟩:=okQn_iff.1 h;exact List.mem_flatMap.2 ⟨a.x,List.mem_range.2 h1,List.mem_flatMap.2 ⟨a.z,List.mem_range.2 h2,List.mem_map.2 ⟨a.p,List.mem_range.2 h3,rfl⟩⟩⟩
theorem yG {t:List Pq} (h:ed 1 t):t ∈ allT:=by
 obtain ⟨h1,h2,h3⟩:=h
 match t,h1 with
 |[a,b],_ =>
  obtain ⟨a1,a2⟩:=h2 a zI;obtain ⟨b1,b2⟩:=h2 b zI;have hc:=h3 0 1 a b zO rfl rfl;have:=List.all_eq_true.1 (List.all_eq_true.1 I6 a (sf a1)) b (sf b1);have hok:I5 [a,b]=true:=by
   unfold I5;simp only [List.all_cons,List.all_nil,a1,a2,b1,b2,Bool.and_self,Bool.true_and];show (!il a b)=true;rw [hc];rfl
  rw [hok] at this;simpa using this
def Ft (t:List Pq):Bool:=decide (t.length=2) && I5 t
theorem nV {t:List Pq} (h:Ft t=true):ed 1 t:=by
 unfold Ft I5 at h;simp only [Bool.and_eq_true,decide_eq_true_eq,List.all_eq_true] at h;obtain ⟨h1,h2,h3⟩:=h
 match t,h1 with
 |[a,b],_ =>
  refine ⟨rfl,fun c hc=>h2 c hc,fun i k x y hik hx hy=>?_⟩;have hk:k < 2:=(List.getElem?_eq_some_iff.1 hy).1;obtain ⟨rfl,rfl⟩:i=0/\k=1:=zO;injection hx with hx;injection hy with hy;subst hx hy
  have h3':(!il a b)=true:=h3;have:il a b=false:=by simpa using h3'
  rw [this];rfl
def Nm:Bool:=decide (allW.length=24) && (decide (allT.length=24) && ((List.range 24).all fun i=>decide (bH 1 (allW.getD i []) (ch 1)=allT.getD i []) && (decide (I0 (allT.getD i []) allT=i) && (Ft (allT.getD i []) && (decide (i < (dw i).1.length) && ((allW.getD i []).all (fun g=>kinds6.contains g.k && decide (g=g1 g.k)) && decide ((allW.getD i []).length<=4)))))))
theorem Bg:Nm=true:=by decide +kernel
theorem nW {i:Nat} (hi:i < 24):bH 1 (allW.getD i []) (ch 1)=allT.getD i []/\I0 (allT.getD i []) allT=i/\ed 1 (allT.getD i [])/\i < (dw i).1.length/\(∀ g ∈ allW.getD i [],kinds6.contains g.k=true/\g=g1 g.k)/\(allW.getD i []).length<=4:=by
 have h:=Bg;unfold Nm at h;simp only [Bool.and_eq_true,decide_eq_true_eq,List.all_eq_true] at h;obtain ⟨_,_,h3⟩:=h;obtain ⟨a1,a2,a3,a4,a5,a6⟩:=h3 i (List.mem_range.2 hi);exact ⟨a1,a2,nV a3,a4,fun g hg=>a5 g hg,a6⟩
theorem nX:allT.length=24:=by
 have h:=Bg;unfold Nm at h;simp only [Bool.and_eq_true,decide_eq_true_eq] at h;exact h.2.1
theorem j8:allW.length=24:=by
 have h:=Bg;unfold Nm at h;simp only [Bool.and_eq_true,decide_eq_true_eq] at h;exact h.1
attribute [irreducible] allT allW
theorem sh {t:List Pq} (h:ed 1 t):∃ i,i < 24/\t=allT.getD i []:=by
 obtain ⟨i,hi,e⟩:=List.mem_iff_getElem.1 (yG h);rw [nX] at hi;exact ⟨i,hi,by rw [List.getD_eq_getElem?_getD,List.getElem?_eq_getElem (by rw [nX];exact hi),<- e];rfl⟩
def cr (t:List Pq):Nat:=if (t.getD 1 ⟨0,0,0⟩).x=0 then 0 else if (t.getD 0 ⟨0,0,0⟩).x=0 then 1 else 2
def dH (k:Nat):List Gt:=if k=1 then [g1 4] else if k=2 then [g1 6,g1 4] else []
def dk (l:List Gt):List Gt:=l.reverse.map fun g=>⟨ji g.k,g.a,g.b,g.c⟩
def Nn (n:Nat) (t:List Pq) (a:Pq):List Nat->Pq->Pq
 |[],o=>o
 |q :: r,o =>
  let o1:=if aZ a.x q=true then cn o (t.getD q ⟨0,0,0⟩) else o
  Nn n t a r (if aZ a.z q=true then cn o1 (t.getD (q+n) ⟨0,0,0⟩) else o1)
def nY (n:Nat) (t:List Pq) (a:Pq):Pq:=Nn n t a (List.range n) ⟨0,0,a.p⟩
def bP (a b:List Pq):List Pq:=(List.range 2).map fun i=>nY 1 b (a.getD i ⟨0,0,0⟩)
def dT (t:List Pq):List Pq :=
 let d:=bP (bH 1 (dk (dH (cr t))) (ch 1)) t
 if (d.getD 1 ⟨0,0,0⟩).p=2 then di 1 (g1 5) d else d
abbrev Nf:=List Nat × List Pq
def qr (s:Nf):Nf :=
 if cr s.2=0/\s.1 ≠ [] then (s.1.dropLast,bP (bH 1 (dH (s.1.getD (s.1.length - 1) 0)++[g1 5]) (ch 1)) (dT s.2)) else (s.1++[cr s.2],dT s.2)
def qO (s:Nf) (k:Int):Nf:=if k=7 then qr s else if k=8 then qr (s.1,di 1 (g1 6) s.2) else (s.1,di 1 (g1 k) s.2)
def ut:List Int->Nf->Nf
 |[],s=>s
 |k :: r,s=>ut r (qO s k)
def qP (s:Nf):List Gt:=(s.1.flatMap fun k=>dH k++[g1 7])++cw s.2
def ef (l:List Nat):Prop:=∀ i k,l[i]? = some k->k<=2/\(0 < i->k ≠ 0)
def yH (t:List Pq):Bool :=
 decide (bH 1 (dk (dH (cr t))++cw t) (ch 1)=bP (bH 1 (dk (dH (cr t))) (ch 1)) t) &&
 (Ft (bP (bH 1 (dk (dH (cr t))) (ch 1)) t) && (Ft (dT t) &&
 ((List.range 3).all (fun m=>decide (bH 1 (dH m++([g1 5]++cw (dT t))) (ch 1)=bP (bH 1 (dH m++[g1 5]) (ch 1)) (dT t)) && Ft (bP (bH 1 (dH m++[g1 5]) (ch 1)) (dT t))) &&
 (let y:=cn (cn ⟨0,0,0⟩ (t.getD 0 ⟨0,0,0⟩)) (t.getD 1 ⟨0,0,0⟩)
  decide (cr t=(if (t.getD 1 ⟨0,0,0⟩).x=0/\(t.getD 1 ⟨0,0,0⟩).z=1 then 0 else if (t.getD 0 ⟨0,0,0⟩).x=0/\(t.getD 0 ⟨0,0,0⟩).z=1 then 1 else 2)) && (decide (cr t<=2) && (!(decide (cr t=2)) || (y.x == 0 && y.z == 1)))))))
def UI:Bool:=(List.range 24).all fun i=>yH (allT.getD i [])
theorem Np:UI=true:=by decide +kernel
theorem si {t:List Pq} (h:ed 1 t):yH t=true:=by
 obtain ⟨i,hi,rfl⟩:=sh h;exact List.all_eq_true.1 Np i (List.mem_range.2 hi)
theorem yI {t:List Pq} (h:ed 1 t):bH 1 (dk (dH (cr t))++cw t) (ch 1)=bP (bH 1 (dk (dH (cr t))) (ch 1)) t/\ed 1 (bP (bH 1 (dk (dH (cr t))) (ch 1)) t)/\ed 1 (dT t)/\cr t<=2:=by
 have:=si h;unfold yH at this;simp only [Bool.and_eq_true,decide_eq_true_eq] at this;obtain ⟨h1,h2,h3,_,_,h6,_⟩:=this;exact ⟨h1,nV h2,nV h3,h6⟩
theorem UJ {t:List Pq} (h:ed 1 t) {m:Nat} (hm:m < 3):bH 1 (dH m++([g1 5]++cw (dT t))) (ch 1)=bP (bH 1 (dH m++[g1 5]) (ch 1)) (dT t)/\ed 1 (bP (bH 1 (dH m++[g1 5]) (ch 1)) (dT t)):=by
 have:=si h;unfold yH at this;simp only [Bool.and_eq_true,decide_eq_true_eq,List.all_eq_true] at this;obtain ⟨_,_,_,h4,_⟩:=this;obtain ⟨a,b⟩:=h4 m (List.mem_range.2 hm);exact ⟨a,nV b⟩
theorem eh {k:Int} (h:1<=k/\k<=6):bF 1 (g1 k)=true/\bh (g1 k).k=true:=by
 obtain rfl | rfl | rfl | rfl | rfl | rfl:k=1\/k=2\/k=3\/k=4\/k=5\/k=6:=zO
 all_goals exact ⟨zD,zD⟩
theorem gR:ed 1 (ch 1):=nV zD
theorem iJ:ef []:=fun i k h=>by simp at h
theorem Bh {l:List Nat} (h:ef l):ef l.dropLast:=by
 intro i k hk;rw [List.getElem?_dropLast] at hk;split at hk
 ·exact h i k hk
 ·cases hk
theorem Fu {l:List Nat} {k:Nat} (h:ef l) (hk:k<=2) (h0:k=0->l=[]):ef (l++[k]):=by
 intro i m hm;by_cases hi:i < l.length
 ·rw [List.getElem?_append_left hi] at hm;exact h i m hm
 ·rw [List.getElem?_append_right zO] at hm;have hi2:i - l.length=0:=by
   have:=(List.getElem?_eq_some_iff.1 hm).1;simp at this;omega
  rw [hi2] at hm;injection hm with hm;subst hm
  refine ⟨hk,fun hp e=>?_⟩;rw [h0 e] at hi2;simp at hi2;omega
theorem I7 {s:Nf} (h1:ef s.1) (h2:ed 1 s.2):ef (qr s).1/\ed 1 (qr s).2:=by
 obtain ⟨_,_,d3,d4⟩:=yI h2;unfold qr;by_cases hc:cr s.2=0/\s.1 ≠ []
 ·rw [if_pos hc];have hl:s.1.length - 1 < s.1.length:=by
   cases e:s.1 with
   |nil=>exact absurd e hc.2
   |cons a r=>simp
  have hm:=(h1 (s.1.length - 1) _ (List.getElem?_eq_getElem hl)).1;refine ⟨Bh h1,?_⟩;rw [List.getD_eq_getElem?_getD,List.getElem?_eq_getElem hl,Option.getD_some];exact (UJ h2 zO).2
 ·rw [if_neg hc];refine ⟨Fu h1 d4 fun e=>?_,d3⟩;by_cases hn:s.1=[]
  ·exact hn
  ·exact absurd ⟨e,hn⟩ hc
theorem vM {s:Nf} {k:Int} (hk:1<=k/\k<=8) (h1:ef s.1) (h2:ed 1 s.2):ef (qO s k).1/\ed 1 (qO s k).2:=by
 unfold qO;split
 ·exact I7 h1 h2
 ·split
  ·exact I7 h1 (iB (eh (k:=6) zO).1 (eh (k:=6) zO).2 h2)
  ·exact ⟨h1,iB (eh zO).1 (eh zO).2 h2⟩
theorem vN:∀ (l:List Int) (s:Nf),(∀ k ∈ l,1<=k/\k<=8)->ef s.1->ed 1 s.2->ef (ut l s).1/\ed 1 (ut l s).2
 |[],s,_,h1,h2=>⟨h1,h2⟩
 |k :: r,s,h,h1,h2=>by
  obtain ⟨a,b⟩:=vM (h k zI) h1 h2;exact vN r _ (fun x hx=>h x (by simp [hx])) a b
def bn:List Gt->Nat
 |[]=>0
 |g :: r=>(if g.k=7\/g.k=8 then 100 else 1)+bn r
def eu (l:List Gt):List Gt:=qP (ut (l.map Gt.k) ([],ch 1))
def L8 (a:Int) (g:Gt):Gt:=⟨g.k,a,g.b,g.c⟩
def cH (l:List Gt):List Gt:=if bn l<=bn (eu l) then l else (eu l).map (L8 (l.getD 0 (g1 0)).a)
def PW:Bool:=decide (bn (eu [])=0) && [1,2,3,4,5,6,7,8].all fun k=>decide (bn [g1 k]<=bn (eu [g1 k]))
theorem Nq:PW=true:=by decide +kernel
theorem I8 {l:List Gt} (h:l.length < 2) (hk:∀ g ∈ l,1<=g.k/\g.k<=8):cH l=l:=by
 have hs:=Nq;unfold PW at hs;simp only [Bool.and_eq_true,decide_eq_true_eq,List.all_eq_true] at hs;unfold cH
 match l,h with
 |[],_=>exact if_pos (Nat.zero_le _)
 |[g],_ =>
  have hg:=hk g zI;have hm:=hs.2 g.k zJ;rw [if_pos];have e1:bn [g]=bn [g1 g.k]:=rfl;have e2:eu [g]=eu [g1 g.k]:=rfl;rw [e1,e2];exact hm
abbrev iw:=List Gt × List (List Gt)
def eV (s:iw) (q:Nat):iw:=(s.1++cH (s.2.getD q []),s.2.set q [])
def ct (s:iw):List Nat->iw
 |[]=>s
 |q :: r=>ct (eV s q) r
def tV (g:Gt):List Nat:=(([g.a,g.b,g.c]:List Int).take (aA g.k).toNat).map Int.toNat
def qu (s:iw) (g:Gt):iw:=if aA g.k=1 then (s.1,s.2.set g.a.toNat (s.2.getD g.a.toNat []++[g])) else ((ct s (tV g)).1++[g],(ct s (tV g)).2)
def gG:List Gt->iw->iw
 |[],s=>s
 |g :: r,s=>gG r (qu s g)
def aO (l:List Gt) (n:Int):List Gt:=if (l.all fun g=>fJ g.k g.a g.b g.c n)=true then (ct (gG l ([],[[],[],[],[]])) [0,1,2,3]).1 else l
def vO (g:Gt) (l:List Gt) (o:Option Nat) (w:World) (e:Ending) (w':World):Prop :=
 match o with
 |none=>e=.returned (.tuple #[.int .i64 (-1),.slice none 0 0])/\Below w w w'
 |some k=>∃ (A:Option Addr) (c:Nat) (h:Gt),l.drop k=h :: l.drop (k+1)/\e=.returned (.tuple #[k,.slice A (aU g h).length c])/\w'.ownsRow w 39 4 (.slice A (aU g h).length c) (aU g h).length (af (aU g h))/\Below w w w'
theorem kB {p:Prop} (h:p:=by have:=H.out.1;omega):p:=h
theorem Nr (A:Option Addr) (n c i:Nat) (l:List Gt) (g:Gt) (w:World) (h:RdG w A n l) (hi:i < n) (hn:n<=1099511627776) (hd:l.drop i=g :: l.drop (i+1)) :
  Calls Tryz.prog 105 #[.slice A n c,i] w (vO g l (dF g (l.drop (i+1)) (i+1)) w):=by
 have HD:=zH hd;obtain ⟨b,off,rfl⟩:=h.first zO;have H:=zH h;clear h hd;go_enter Tryz.func105,Tryz.ntmps105;go_wp2_with fail;go_loopg [6] (n - (i+1)) (fun m j wr=>∃ k:Nat,k+m=n/\i+1<=k/\j=.int .i64 k/\dF g (l.drop k) k=dF g (l.drop (i+1)) (i+1)/\Below w w wr)
 case atStart=>exact ⟨i+1,zO,zO,by go_num,rfl,zW⟩
 case round =>
  obtain ⟨k,hk,hik,rfl,hs,hb⟩:=hrel;have HS:=zH hs;clear hs;by_cases hlt:k < n
  ·obtain ⟨_,p0,p1,p2,p3⟩:=(H.below hb).cellsAt HD.out;have hd2:=ax (l:=l) (k:=k) kB;obtain ⟨h,hh⟩:∃ h,l[k]'kB=h:=⟨_,rfl⟩;rw [hh] at hd2;have HD2:=zH hd2;clear hd2 hh;obtain ⟨_,q0,q1,q2,q3⟩:=(H.below hb).cellsAt HD2.out;have hi1:(i:Int) < (n:Int):=zO;have hk1:(k:Int) < (n:Int):=zO;go_wp2_with fail
   go_region_held3 (fun w'=>w'.cell? ⟨b,off+i * 4,none⟩=some (.int .i64 g.k)/\w'.cell? ⟨b,off+i * 4+1,none⟩=some (.int .i64 g.a)/\w'.cell? ⟨b,off+i * 4+2,none⟩=some (.int .i64 g.b)/\w'.cell? ⟨b,off+i * 4+3,none⟩=some (.int .i64 g.c)/\w'.cell? ⟨b,off+k * 4,none⟩=some (.int .i64 h.k)/\w'.cell? ⟨b,off+k * 4+1,none⟩=some (.int .i64 h.a)/\w'.cell? ⟨b,off+k * 4+2,none⟩=some (.int .i64 h.b)/\w'.cell? ⟨b,off+k * 4+3,none⟩=some (.int .i64 h.c))
    (first | go_keep | exact ⟨x0,x1,x2,x3,y0,y1,y2,y3⟩)
    (first | (go_at_call 141;(with_reducible refine (vF g h _).mono ?_);rintro e w1 ⟨A1,c1,rfl,o1,b1⟩;have b01:=hb.drew.trans (b1.mono hb.size);have ⟨_,x0,x1,x2,x3⟩:=(H.out.below b01).cellsAt HD.out;have ⟨_,y0,y1,y2,y3⟩:=(H.out.below b01).cellsAt HD2.out))
   clear p0 p1 p2 p3 q0 q1 q2 q3;cases hm:bK g h
   ·have HM:=zH hm;clear hm;go_wp2_with fail
    go_still_tail 8,zK
    go_wp2_with fail;refine (ri g h _).mono ?_;rintro e w2 ⟨rfl,b2⟩;have b02:=b01.drew.trans (b2.mono b01.size);cases hc:jI g h
    ·have FIN:=zH (show vO g l (dF g (l.drop (i+1)) (i+1)) w (.returned (.tuple #[.int .i64 (-1),.slice none 0 0])) w2 by
      rw [<- HS.out,HD2.out,yk HM.out hc];exact ⟨rfl,b02⟩)
     clear hc;go_wp2_with fail;go_ret2;exact FIN.out
    ·have FIN:=zH (show dF g (l.drop (k+1)) (k+1)=dF g (l.drop (i+1)) (i+1) by
      rw [<- HS.out,HD2.out,yj HM.out hc])
     clear hc;go_wp2_with fail;go_roundg (gk - 1)
     case measure=>omega
     case rel=>exact ⟨k+1,zO,zO,by go_num,FIN.out,b02⟩
   ·have FIN:=zH (show vO g l (dF g (l.drop (i+1)) (i+1)) w (.returned (.tuple #[k,.slice A1 (aU g h).length c1])) w1 by
     rw [<- HS.out,HD2.out,ul hm];exact ⟨A1,c1,h,HD2.out,rfl,ae o1 hb.size,b01⟩)
    clear hm;go_wp2_with fail;go_ret2;exact FIN.out
  ·have FIN:=zH (show vO g l (dF g (l.drop (i+1)) (i+1)) w (.returned (.tuple #[.int .i64 (-1),.slice none 0 0])) wr by
    rw [<- HS.out,List.drop_eq_nil_of_le kB];exact ⟨rfl,hb⟩)
   go_wp2_with fail;go_ret2;exact FIN.out
def Wm (gs:List Gt) (m:Nat) (wd:World) (v:Value) (wx:World):Prop:=∃ A c,v=.slice A m c/\wx.ownsRow wd.heap.size 39 4 (.slice A m c) m (af gs)/\Below wd.heap.size wd wx
theorem sj (A:Option Addr) (n c:Nat) (l:List Gt) (w:World) (h:RdG w A n l) (hnc:n<=c) (hn:n<=1099511627776) :
  Calls Tryz.prog 59 #[.slice A n c] w (mO (d9 l) (eR l) w):=by
 have H:=zH h;clear h;go_enter Tryz.func59,Tryz.ntmps59;go_wp2_with fail;go_loopg [4] n (fun m j wr=>∃ i:Nat,i+m=n/\j=.int .i64 i/\bf (l.drop i) i=bf l 0/\Below w w wr)
 case atStart=>exact ⟨0,zO,rfl,rfl,zW⟩
 case round =>
  obtain ⟨i,hi,rfl,hs,hb⟩:=hrel;have HS:=zH hs;clear hs;by_cases hlt:i < n
  ·have hd:=ax (l:=l) (k:=i) kB;obtain ⟨g,hg⟩:∃ g,l[i]'kB=g:=⟨_,rfl⟩;rw [hg] at hd;have HD:=zH hd;clear hd hg;go_wp2_with fail;refine (Nr _ _ _ i l g _ (H.below hb) hlt hn HD).mono ?_;intro e w1 hret;cases hsc:dF g (l.drop (i+1)) (i+1) with
   |none =>
    rw [hsc] at hret;obtain ⟨rfl,b1⟩:=hret;have b01:=hb.trans (b1.mono hb.size);have FIN:=zH (show bf (l.drop (i+1)) (i+1)=bf l 0 by
     rw [<- HS.out,HD.out,bf,hsc])
    clear hsc;go_wp2_with fail;go_roundg (gk - 1)
    case measure=>omega
    case rel=>exact ⟨i+1,zO,by go_num,FIN.out,b01⟩
   |some k =>
    rw [hsc] at hret;obtain ⟨A1,c1,h,hdk,rfl,o1,b1⟩:=hret;have b01:=hb.trans (b1.mono hb.size);have hk:=lK hsc;rw [List.length_drop,H.out.1] at hk;obtain ⟨hk1,hk2⟩:=hk;have hk3:k < n:=zO;have hik:i+1<=k:=hk1;have FIN:=zH (show d9 l=jZ l i k/\eR l=true by
     have e:bf l 0=some (i,k):=by rw [<- HS.out,HD.out,bf,hsc]
     simp [d9,eR,e])
    have HDK:=zH hdk;have hml:=iA g h;have HG:=zH (show jZ l i k=l.take i++((l.drop (i+1)).take (k - (i+1))++(aU g h++l.drop (k+1))) by
     unfold jZ;rw [iH HD.out,iH hdk])
    clear hsc hk1 hk2 hdk;have hkp:(0:Int) < (k:Int):=zO;have hi0:(0:Int)<=(i:Int):=zO;have hic:(i:Int)<=(c:Int):=zO;have hik0:(i:Int)+1<=(k:Int):=zO;have hkc:(k:Int)<=(c:Int):=zO;have hwi:IntKind.i64.wrap ((i:Int)+1)=(i:Int)+1:=by rw [IntKind.wrap_i64];omega
    have hsl1:=UC A n c i zO;have hsl2:=PS A n c (i+1) k zO zO;rw [Int.natCast_succ] at hsl2;obtain ⟨A2,hA2⟩:∃ A2,(if c=i+1 then A else A.map (·.add ((i+1) * 4)))=A2:=⟨_,rfl⟩;rw [hA2] at hsl2;have R1:=zH ((H.below b01).pre (k:=i) zO);have R2:=(H.below b01).mid (lo:=i+1) (hi:=k) (cap:=c) zO zO hnc;rw [hA2] at R2;have R2:=zH R2;obtain ⟨m2,hm2⟩:∃ m2,k - (i+1)=m2:=⟨_,rfl⟩;rw [hm2] at hsl2;clear hA2;go_upto_region 6 with fail
    go_cut [7] (fun v wx=>Wm (l.take i++(l.drop (i+1)).take (k - (i+1))) (i+m2) w1 v wx)
    case first =>
     have hz4:(Value.agg #[(0:Int),(0:Int),(0:Int),(0:Int)]).cells.size=4:=rfl;have OWN0:(w1.alloc (.cells #[] 39)).drew.ownsRow w1 39 4 (.slice (some ⟨w1,0,none⟩) 0 0) 0 []:=aq (World.ownsRow_lit w1 #[] 0 (size:=4) (e:=39) zR zM rfl);have SRC0:Rd (w1.alloc (.cells #[] 39)).drew 4 A i (af (l.take i)):=(R1.out.2.alloc _).drew;have BW0:Below w1 w1 (w1.alloc (.cells #[] 39)).drew:=((zW).alloc zR _).drew;have R2':Hid (Rd w1 4 A2 m2 (af ((l.drop (i+1)).take (k - (i+1))))):=by
      have h2:=R2.out.2;rw [hm2] at h2;rw [hm2];exact h2
     have GLUE:=zH (av (l.take i) ((l.drop (i+1)).take (k - (i+1))));have hm2b:i+m2<=n:=zO;clear hm2 HG FIN R2
     go_region_held3 (fun w'=>True) (first | trivial | skip)
      (first
       |(refine Fi zF (.tmp 22) (.tmp 25) 24 zF Tryz.underlying24 ak hz4 zD zA OWN0 zA SRC0 aQ zO zD BW0.size ?_;intro A3 c3 w3 o3 g3;have BW3:Below w1 w1 w3:=ag BW0 BW0.size OWN0 zR g3;have SRC1:=R2'.out.below BW3)
       |(refine bv zF (.tmp 26) (.tmp 31) 24 zF Tryz.underlying24 ak hz4 zD zA o3 zA SRC1 aQ zO zD BW3.size ?_;intro A4 c4 w4 o4 g4))
     all_goals go_wp2_with fail
     all_goals go_meet
     all_goals exact ⟨A4,c4,rfl,by rw [GLUE.out];exact o4,ag BW3 BW3.size o3 zR g4⟩
    case rest =>
     obtain ⟨A3,c3,rfl,o3,b3⟩:=hcut;obtain ⟨wd,rfl⟩:∃ wd,wd=wc:=⟨_,rfl⟩;have b03:=b01.trans (b3.mono b01.size);have O1:=ab o1 b3;have AP:=EP o1 o3 zR;have hsl3:=UB A n c (k+1) zO;rw [Int.natCast_succ] at hsl3;obtain ⟨A4,hA4⟩:∃ A4,(if c=k+1 then A else A.map (·.add ((k+1) * 4)))=A4:=⟨_,rfl⟩;rw [hA4] at hsl3;obtain ⟨m4,hm4⟩:∃ m4,n - (k+1)=m4:=⟨_,rfl⟩;have R4:=zH (show ∀ wx,Below w w wx->Rd wx 4 A4 m4 (af (l.drop (k+1))) from fun wx bx=>by
      have h4:=(H.below bx).cut (k:=k+1) (cap:=c) zO hnc;rw [hA4,hm4] at h4;exact h4.2)
     rw [hm4] at hsl3;have hwk:IntKind.i64.wrap ((k:Int)+1)=(k:Int)+1:=by rw [IntKind.wrap_i64];omega
     have hkn:(k:Int)+1<=(n:Int):=zO;obtain ⟨m1,hm1⟩:∃ m1,(aU g h).length=m1:=⟨_,rfl⟩;have HM1:=zH hm1;rw [hm1] at hml;have LEN:=zH (show (d9 l).length=i+m2+m1+m4 by
      rw [FIN.out.1,HG.out];have:=H.out.1;simp only [List.length_append,List.length_take,List.length_drop,hm1];omega)
     have hbd:i+m2+m1+m4<=1099511627777:=zO;have GLUE:=zH (show af (d9 l)=(af (l.take i++(l.drop (i+1)).take (k - (i+1)))++af (aU g h))++af (l.drop (k+1)) by
      rw [FIN.out.1,HG.out];simp [av])
     have SB:=zH FIN.out.2;rw [hm1] at O1 AP;have O1:=zH O1;have AP:=zH AP;have O3:=zH o3;rw [hm1];clear hm1 hm2 hm4 hA4 FIN HG o1 o3 hsl1 hsl2 R1 R2;have hz4:(Value.agg #[(0:Int),(0:Int),(0:Int),(0:Int)]).cells.size=4:=rfl;have SRC1:Rd wd.drew 4 A1 m1 (af (aU g h)):=(Rd.own O1.out).drew;have OWN1:wd.drew.ownsRow w1 39 4 (.slice A3 (i+m2) c3) (i+m2) (af (l.take i++(l.drop (i+1)).take (k - (i+1)))):=aq O3.out;have hbs1:w1.heap.size<=wd.drew.heap.size:=b3.size;have B3:Below w1 w1 wd.drew:=b3.drew;go_wp2_with fail
     go_region_held3 (fun w'=>True) (first | trivial | skip)
      (first
       |(refine bv zF (.tmp 33) (.tmp 34) 24 zF Tryz.underlying24 ak hz4 zD zA OWN1 zA SRC1 aQ zO zD hbs1 ?_;intro A5 c5 w5 o5 g5;have BW5:Below w1 w1 w5:=ag B3 hbs1 OWN1 zR g5;have SRC2:=R4.out w5 (b01.trans (BW5.mono b01.size)))
       |(refine bv zF (.tmp 35) (.tmp 39) 24 zF Tryz.underlying24 ak hz4 zD zA o5 zA SRC2 aQ zO zD BW5.size ?_;intro A6 c6 w6 o6 g6))
     all_goals go_wp2_with fail
     all_goals go_ret2
     all_goals
      rw [SB.out];exact ⟨A6,c6,by rw [LEN.out];rfl,by rw [LEN.out,GLUE.out];exact ae o6 b01.size,b01.trans ((ag BW5 BW5.size o5 zR g6).mono b01.size)⟩
  ·have HO:=zH (show d9 l=l/\eR l=false by
    have e:bf l 0=none:=by rw [<- HS.out,List.drop_eq_nil_of_le kB];rfl
    simp [d9,eR,e])
   have OWN0:=zH (World.ownsRow_lit wr #[] 0 (size:=4) (e:=39) zR zM rfl);have hbs:=hb.size
   go_wp2_with (at_builtin;refine jv rfl (.tmp 41) (.tmp 42) 24 rfl Tryz.underlying24 ak rfl zD rfl OWN0.out rfl ((H.below hb).2.alloc _) aQ zO zD zI ?_;intro A2 c2 w2 o2 g2)
   go_ret2;have hl:=H.out.1;have b2:Below wr wr w2:=ag ((zW).alloc zR _) zI OWN0.out zR g2;rw [HO.out.1,HO.out.2];exact ⟨A2,c2,by rw [hl];rfl,by rw [hl];exact ae o2 hb.size,hb.trans (b2.mono hb.size)⟩
section
variable {P:Program} {w:World}
theorem yJ (base:Nat) (t ty e:TypeId) {z:Value} {size bytes:Nat} (ht:P.underlying t=some (.slice e)) (hinfo:(P.info? e).map (fun i=>(i.zero,i.size,i.bytes))=some (some z,size,bytes))
  (hzs:z.cells.size=size) (hsz:0 < size) (A:Option Addr) (n c:Nat) (xs:List Value) (hown:w.ownsRow base e size (.slice A n c) n xs)
  (A':Option Addr) (m c':Nat) (news:List Value) (hr:Rd w size A' m news) (h1:∀ u ∈ news,u.oneCell'=true)
  (hbytes:(n+m) * bytes<=140737488355328) (hby:0 < bytes) (hbase:base<=w.heap.size) :
  ∃ A'' c'' w',(Builtin.append_ #[t,t] ty #[.slice A n c,.slice A' m c']).run P w=.ok (.slice A'' (n+m) c'') w'/\w'.ownsRow base e size (.slice A'' (n+m) c'') (n+m) (xs++news)/\w.grownBy w' (Value.slice A n c).ownBlock ∧
   ((Value.slice A'' (n+m) c'').ownBlock=(Value.slice A n c).ownBlock\/∀ b,(Value.slice A'' (n+m) c'').ownBlock=some b->w.heap.size<=b):=by
 obtain ⟨i,hi,hz,hs,hb⟩:=info_parts hinfo;have h63:n+m<=maxLen:=by
  have h:=Nat.le_trans (Nat.le_mul_of_pos_right (n+m) hby) hbytes;simp only [maxLen];omega
 have key:∃ v' w',(Builtin.append_ #[t,t] ty #[.slice A n c,.slice A' m c']).run P w=.ok v' w'/\w'.ownsRow base e size v' (n+m) (xs++news)/\w.grownBy w' (Value.slice A n c).ownBlock/\(v'.ownBlock=(Value.slice A n c).ownBlock\/∀ b,v'.ownBlock=some b->w.heap.size<=b):=by
  rcases A' with _ | ad
  ·have hm:m=0:=by
    rcases Nat.eq_zero_or_pos m with h0 | h0
    ·exact h0
    ·obtain ⟨b,off,h,_⟩:=hr.2 h0;cases h
   subst hm;have hn:news=[]:=List.eq_nil_of_length_eq_zero (by simpa using hr.1);subst hn;exact ⟨_,w,lj base t ty e i size ht hi _ n xs hown c',by simpa using hown,World.grownBy.refl w _,.inl rfl⟩
  ·have hcells:∀ j u,news[j]? = some u->w.cell? (ad.add j)=some u:=by
    intro j u hu;rcases Nat.eq_zero_or_pos m with h0 | h0
    ·subst h0;have hn:news=[]:=List.eq_nil_of_length_eq_zero (by simpa using hr.1);subst hn;simp at hu
    ·obtain ⟨b,off,h,_,hc⟩:=hr.2 h0;injection h with h;subst h
     have:=hc j u hu;unfold Addr.add;split
     ·subst j;simpa using this
     ·exact this
   obtain ⟨v',w',hrun,h2,h3,h4⟩:=run_append_own_at (P:=P) w base t ty e i z size bytes ht hi hz hs hb hzs hsz _ n xs hown ad m c' news hr.1 hcells h1 h63 hbytes hbase;refine ⟨v',w',hrun,h2,h3,?_⟩;have h5:v'.ownBlock=(Value.slice A n c).ownBlock\/v'.ownBlock=some w.heap.size:=by first | exact h4 | exact h4.1 | exact h4.2
   rcases h5 with h5 | h5
   ·exact .inl h5
   ·exact .inr fun b hb=>by rw [h5] at hb;injection hb with hb;omega
 obtain ⟨v',w',hrun,h2,h3,h4⟩:=key;obtain ⟨A'',c'',rfl⟩:=fs h2;exact ⟨A'',c'',w',hrun,h2,h3,h4⟩
theorem uu {ops:Array Oper} {o:Oper} {a:Act} {K:Act->World->Prop} {Q:Exit->Act->World->Prop} {E:Prop} (hgd:o.guard=none) (s x:Operand) (t:TypeId)
  (ho:o.op=.call { callee:=.builtin .append,args:=#[s,x],argTypes:=#[t,t] })
  {base e:Nat} {z:Value} {size bytes:Nat} (ht:P.underlying t=some (.slice e)) (hinfo:(P.info? e).map (fun i=>(i.zero,i.size,i.bytes))=some (some z,size,bytes))
  (hzs:z.cells.size=size) (hsz:0 < size) {A:Option Addr} {n c:Nat} {xs:List Value} (hs:a.eval s=.slice A n c) (hown:w.ownsRow base e size (.slice A n c) n xs)
  {A':Option Addr} {m c':Nat} {news:List Value} (hx:a.eval x=.slice A' m c') (hr:Rd w size A' m news) (h1:∀ u ∈ news,u.oneCell'=true)
  (hbytes:(n+m) * bytes<=140737488355328) (hby:0 < bytes) (hbase:base<=w.heap.size)
  (h:∀ A'' c'' w',w'.ownsRow base e size (.slice A'' (n+m) c'') (n+m) (xs++news)->w.grownBy w' (Value.slice A n c).ownBlock->((Value.slice A'' (n+m) c'').ownBlock=(Value.slice A n c).ownBlock\/∀ b,(Value.slice A'' (n+m) c'').ownBlock=some b->w.heap.size<=b)->K (a.put o.dst (.slice A'' (n+m) c'')) w') :
  if Region.wanted o (yielded ops a.tmps)=true then Oper.wp P o a w K Q else E:=by
 have hw:Region.wanted o (yielded ops a.tmps)=true:=by simp [Region.wanted,hgd]
 rw [if_pos hw];obtain ⟨A'',c'',w',hrun,h2,h3,h4⟩:=yJ (P:=P) base t o.type e ht hinfo hzs hsz A n c xs hown A' m c' news hr h1 hbytes hby hbase;unfold Oper.wp execOp;simp only [ho,resolve,invoke,builtin,Sem.run_bind,Sem.run_pure,Result.andThen_ok,List.map_toArray,List.map_cons,List.map_nil,hs,hx,hrun];exact h A'' c'' w' h2 h3 h4
end
section
variable {α:Type} {cs:List α->List Value} {w w1:World} {sz:Nat}
theorem OwnSS.ext {base eo ei k go n cap c c':Nat} {l:List (List α)} {x y:List α} {D D':Option Addr} (hne:eo ≠ ei) (h:OwnSS cs w base eo ei sz (.slice (some ⟨go,0,none⟩) n cap) l) (hk:l[k]? = some x)
  (hcell:w.cell? ⟨go,k,none⟩=some (.slice D x.length c)) (hg:w.grownBy w1 (Value.slice D x.length c).ownBlock)
  (ho:w1.ownsRow base ei sz (.slice D' y.length c') y.length (cs y)) (hb:(Value.slice D' y.length c').ownBlock=(Value.slice D x.length c).ownBlock\/∀ b,(Value.slice D' y.length c').ownBlock=some b->w.heap.size<=b) :
  OwnSS cs (w1.setCell ⟨go,k,none⟩ (.slice D' y.length c')) base eo ei sz (.slice (some ⟨go,0,none⟩) n cap) (l.set k y):=by
 obtain ⟨vs,a1,a2,a3⟩:=h;have hkl:k < l.length:=(List.getElem?_eq_some_iff.1 hk).1;have hln:l.length=n:=by
  obtain ⟨A,c,e⟩:=fs a1;injection e with _ e _;exact e.symm
 subst hln;have hvl:vs.length=l.length:=by simpa using a1.1
 have hvk:vs[k]? = some (.slice D x.length c):=by rw [<- a1.cellAt k zO];exact hcell
 obtain ⟨D0,c0,e1,e2⟩:=a2 k x hk;rw [hvk] at e1;injection e1 with e1;injection e1 with e3 _ e4;subst e3 e4
 have b1:=a1.kept hg (aN a1 e2 hne);have s1:=b1.stored k (.slice D' y.length c');have gset:w1.grownBy (w1.setCell ⟨go,k,none⟩ (.slice D' y.length c')) (some go):=s1.2;have keep:∀ (v:Value) (n':Nat) (xs:List Value),w1.ownsRow base ei sz v n' xs->(w1.setCell ⟨go,k,none⟩ (.slice D' y.length c')).ownsRow base ei sz v n' xs:=fun v n' xs hv=>by
  refine hv.kept gset ?_;rcases aN hv b1 (fun e=>hne e.symm) with h0 | h0
  ·exact .inl h0
  ·exact .inr h0
 have hnew:(vs.set k (.slice D' y.length c'))[k]? = some (.slice D' y.length c'):=List.getElem?_set_self zO;have old:∀ (j:Nat) (u:Value),vs[j]? = some u->∀ b,u.ownBlock=some b->b < w.heap.size:=fun j u hu b hb'=>by
  have hj:j < l.length:=by have:=(List.getElem?_eq_some_iff.1 hu).1;omega
  obtain ⟨B,cc,f1,f2⟩:=a2 j l[j] (List.getElem?_eq_getElem hj);rw [hu] at f1;injection f1 with f1;subst f1
  exact (f2.lt b hb').2
 refine ⟨vs.set k (.slice D' y.length c'),by rw [List.length_set];exact s1.1,fun j z hz=>?_,fun i j u u' hij hu hu'=>?_⟩
 ·by_cases hjk:k=j
  ·subst hjk;rw [List.getElem?_set_self hkl] at hz;injection hz with hz;subst hz
   exact ⟨D',c',hnew,keep _ _ _ ho⟩
  ·rw [List.getElem?_set_ne hjk] at hz ⊢;obtain ⟨B,cc,f1,f2⟩:=a2 j z hz;exact ⟨B,cc,f1,keep _ _ _ (f2.kept hg (a3 j k _ _ (fun e=>hjk e.symm) f1 hvk))⟩
 ·by_cases hik:k=i
  ·subst hik;rw [hnew] at hu;injection hu with hu;subst hu
   rw [List.getElem?_set_ne hij] at hu';rcases hb with hb | hb
   ·rw [hb];exact a3 k j _ _ hij hvk hu'
   ·cases hq:(Value.slice D' y.length c').ownBlock with
    |none=>exact .inl rfl
    |some b =>
     refine .inr fun he=>?_
     have h1:=hb b hq;have h2:=old j u' hu' b he.symm;omega
  ·rw [List.getElem?_set_ne hik] at hu;by_cases hjk:k=j
   ·subst hjk;rw [hnew] at hu';injection hu' with hu'
    subst hu';rcases hb with hb | hb
    ·rw [hb];exact a3 i k _ _ hij hu hvk
    ·cases hq:u.ownBlock with
     |none=>exact .inl rfl
     |some b =>
      refine .inr fun he=>?_
      have h1:=hb b he.symm;have h2:=old i u hu b hq;omega
   ·rw [List.getElem?_set_ne hjk] at hu';exact a3 i j u u' hij hu hu'
end
theorem I9 (y:Dw) (f:Dw->Dw) (A:Option Addr) (n cap q:Nat) (vs:List Dw) (w:World) (h:RdD w A n vs) (h1:1<=q) (h4:q<=4) (hn:n=2 ^ q) (hv:∀ x ∈ vs,lm x=true) (hf:∀ x ∈ vs,iR x y=some (f x)):Calls Tryz.prog 94 #[.slice A n cap,.agg #[y.n.a,y.n.b,y.n.c,y.n.d,y.e]] w (Ie n (vs.map f) w):=by
 have H:=zH h;have HN:=zH hn;have HV:=zH hv;have HF:=zH hf;have HLV:=zH h.1;have hn16:n<=16:=by rw [hn];exact (ng h1 h4).1
 have X0:=zH (show DB w w.heap.size y.n y.e ((w.alloc (.cells #[y.n.a,y.n.b,y.n.c,y.n.d,y.e] 110)).alloc (.cells #[] 110)) from
  ⟨(Bx.new w _ _).alloc _,((zW).alloc zR _).alloc zI _,zR⟩)
 have O0:=zH (show ((w.alloc (.cells #[y.n.a,y.n.b,y.n.c,y.n.d,y.e] 110)).alloc (.cells #[] 110)).ownsRow (w.heap.size+1) 110 5 (.slice (some ⟨w.heap.size+1,0,none⟩) 0 0) 0 (bL []) from en _ #[] 0 zI zI zM rfl rfl);clear h hn hv hf;go_enter Tryz.func94,Tryz.ntmps94;go_wp2_with fail;go_loopg [7,6] n (fun r i s wr=>∃ (k:Nat) (C:Option Addr) (cc:Nat),k+r=n/\i=.int .i64 k/\s=.slice C k cc/\wr.ownsRow (w.heap.size+1) 110 5 (.slice C k cc) k (bL ((vs.take k).map f))/\DB w w.heap.size y.n y.e wr)
 case atStart=>exact ⟨0,_,0,zO,rfl,rfl,O0.out,X0.out⟩
 case round =>
  obtain ⟨k,C,cc,hk,rfl,rfl,ho,hx⟩:=hrel;have HO:=zH ho;have HX:=zH hx;clear ho hx O0 X0;by_cases hlt:k < n
  ·obtain ⟨b,off,x,rfl,hB,hd,c0,c1,c2,c3,c4⟩:=(H.below HX.out.2.1).at_ hlt;obtain ⟨x0,x1,x2,x3,x4,xl⟩:=HX.cells;have HM:=zH (HF.out x (List.mem_of_mem_drop (i:=k) (by rw [hd];simp)));have HTK:=zH (eZ hd);clear hd;have hi0:(0:Int)<=(k:Int):=zO;have hi1:(k:Int) < (n:Int):=zO;go_upto_region 5 with fail
   go_cut [8,9] (fun v10 v11 wx=>v11=.bool true/\∃ X,v10=.pointer (some ⟨X,0,none⟩)/\Bx wx X 110 #[.int .i64 (f x).n.a,.int .i64 (f x).n.b,.int .i64 (f x).n.c,.int .i64 (f x).n.d,.int .i64 (f x).e]/\Below wr wr wx/\wr.heap.size<=X)
   case first =>
    have HSS:=zH (show ∀ wx:World,Below wr wr wx->(wx.cell? ⟨b,off+k * 5,none⟩=some (.int .i64 x.n.a)/\wx.cell? ⟨b,off+k * 5+1,none⟩=some (.int .i64 x.n.b)/\wx.cell? ⟨b,off+k * 5+2,none⟩=some (.int .i64 x.n.c)/\wx.cell? ⟨b,off+k * 5+3,none⟩=some (.int .i64 x.n.d)/\wx.cell? ⟨b,off+k * 5+4,none⟩=some (.int .i64 x.e))/\(wx.cell? ⟨w,0,none⟩=some (.int .i64 y.n.a)/\wx.cell? ⟨w,1,none⟩=some (.int .i64 y.n.b)/\wx.cell? ⟨w,2,none⟩=some (.int .i64 y.n.c)/\wx.cell? ⟨w,3,none⟩=some (.int .i64 y.n.d)/\wx.cell? ⟨w,4,none⟩=some (.int .i64 y.e)) from fun wx hb=>⟨⟨(hb.cell (p:=⟨b,off+k * 5,none⟩) hB).trans c0,(hb.cell (p:=⟨b,off+k * 5+1,none⟩) hB).trans c1,(hb.cell (p:=⟨b,off+k * 5+2,none⟩) hB).trans c2,(hb.cell (p:=⟨b,off+k * 5+3,none⟩) hB).trans c3,(hb.cell (p:=⟨b,off+k * 5+4,none⟩) hB).trans c4⟩,(hb.cell (p:=⟨w,0,none⟩) xl).trans x0,(hb.cell (p:=⟨w,1,none⟩) xl).trans x1,(hb.cell (p:=⟨w,2,none⟩) xl).trans x2,(hb.cell (p:=⟨w,3,none⟩) xl).trans x3,(hb.cell (p:=⟨w,4,none⟩) xl).trans x4⟩)
    have V0:Below wr wr wr.drew:=(zW).drew;have VA:Below wr wr (wr.alloc (.cells #[(0:Int),(0:Int),(0:Int),(0:Int),(0:Int)] 110)).drew:=((zW).alloc zR _).drew
    go_region_held3 (fun w'=>(w'.cell? ⟨b,off+k * 5,none⟩=some (.int .i64 x.n.a)/\w'.cell? ⟨b,off+k * 5+1,none⟩=some (.int .i64 x.n.b)/\w'.cell? ⟨b,off+k * 5+2,none⟩=some (.int .i64 x.n.c)/\w'.cell? ⟨b,off+k * 5+3,none⟩=some (.int .i64 x.n.d)/\w'.cell? ⟨b,off+k * 5+4,none⟩=some (.int .i64 x.e))/\(w'.cell? ⟨w,0,none⟩=some (.int .i64 y.n.a)/\w'.cell? ⟨w,1,none⟩=some (.int .i64 y.n.b)/\w'.cell? ⟨w,2,none⟩=some (.int .i64 y.n.c)/\w'.cell? ⟨w,3,none⟩=some (.int .i64 y.n.d)/\w'.cell? ⟨w,4,none⟩=some (.int .i64 y.e)))
     (first | exact HSS.out _ V6 | exact HSS.out _ (V6.alloc (Below.size V6) _) | exact HSS.out _ (ug V6 zR) | exact HSS.out _ VA | exact HSS.out _ V0 | go_keep)
     (first
      |(go_at_call 137;refine (GV x y (f x) _ HM.out).mono ?_;rintro e w6 ⟨rfl,b6⟩;have V6:Below wr wr w6:=(by first | exact aa VA b6 | exact aa V0 b6);(try (have ZX:=(Bx.new wr 110 #[(0:Int),(0:Int),(0:Int),(0:Int),(0:Int)]).drew.below b6;have ⟨z0,z1,z2,z3,z4,f0,f1,f2,f3,f4⟩:=Ue ZX)))
      |fail)
    all_goals go_wp2_with fail
    all_goals go_meet
    all_goals refine ⟨rfl,_,rfl,?_,?_,?_⟩
    all_goals first
     |(with_reducible exact Bx.new w6 _ _)
     |(with_reducible exact vr ZX)
     |(with_reducible exact V6.alloc (Below.size V6) _)
     |(with_reducible exact ug V6 zR)
     |(with_reducible exact Below.size V6)
     |(with_reducible exact zR)
   case rest =>
    obtain ⟨rfl,X,rfl,xb,bb,hX⟩:=hcut;have HO7:=zH (ab HO bb);have HX7:=zH (HX.below bb);have XB:=zH xb;clear c0 c1 c2 c3 c4 x0 x1 x2 x3 x4 xl xb bb HO HX HM hX hB;go_wp2_with fail;refine (jW _ n _ q vs _ (H.below HX7.out.2.1) h1 h4 HN HV).mono ?_;rintro e w8 ⟨rfl,b8⟩;have HO8:=zH (ab HO7 b8);have HX8:=zH (HX7.below b8);have XB8:=zH (XB.below b8);clear b8 HO7 HX7 XB;obtain ⟨y0,y1,y2,y3,y4,_⟩:=Ue XB8.out;have yl:=XB8.lt;have xl8:=HX8.out.1.lt
    go_wp2_with (at_builtin;refine ah rfl (.tmp 34) (.tmp 36) 64 rfl Tryz.underlying64 fC rfl zD rfl (HO8.alloc _) rfl (Rd.lit w8 110 #[.int .i64 (f x).n.a,.int .i64 (f x).n.b,.int .i64 (f x).n.c,.int .i64 (f x).n.d,.int .i64 (f x).e] 1 5 rfl) zV zO zD zS ?_;intro A9 c9 w9 o9 g9;have HX9:=HX8.out.1.alloc (.cells #[.int .i64 (f x).n.a,.int .i64 (f x).n.b,.int .i64 (f x).n.c,.int .i64 (f x).n.d,.int .i64 (f x).e] 110))
    go_roundg (gk - 1)
    case measure=>omega
    case rel =>
     refine ⟨k+1,A9,c9,zO,by go_num,rfl,?_,HX9.grown g9 (fun e=>by have:=(HO8.lt _ e.symm).1;omega),ag (HX8.out.2.1.alloc zO _) zJ (HO8.alloc _) zO g9,zR⟩;rw [HTK.out,List.map_append,tR];exact o9
  ·have:vs.take k=vs:=List.take_of_length_le kB;obtain rfl:k=n:=zO;rw [this] at HO;go_wp2_with fail;refine (jW _ k _ q vs _ (H.below HX.out.2.1) h1 h4 HN HV).mono ?_;rintro e w1 ⟨rfl,b1⟩;go_wp2_with fail;exact bodyPost_ret (v:=.tuple #[.slice C k cc,.bool true]) (by simp [results,Tryz.results94,go_sem]) rfl ⟨_,_,rfl,ab (ae HO.out zO) b1,aa HX.out.2.1 b1⟩
theorem Wn (x y:Zw) (w:World):(Op.equalIn 9999 108 (.agg #[x.a,x.b,x.c,x.d]) (.agg #[y.a,y.b,y.c,y.d])).run Tryz.prog w=.ok (x.a == y.a && (x.b == y.b && (x.c == y.c && x.d == y.d))) w:=by
 have u3:=Tryz.underlying3;have a3:=Tryz.isAgg3;have z3:=Tryz.sizeOf3;have hZ:Tryz.prog.underlying 108=some (.struct (Tryz.prog.fieldsOf 108)):=zK;rw [show (9999:Nat)=9998+1 from rfl,run_equalIn_agg w 9998 108 _ _ hZ zK];simp only [Program.fieldsOf,Tryz.underlying108]
 go_simp
 by_cases h1:x.a=y.a<;>by_cases h2:x.b=y.b<;>by_cases h3:x.c=y.c<;>by_cases h4:x.d=y.d<;>simp [h1,h2,h3,h4]
theorem Ja (x:Dw) (w:World):(part 108 #[x.n.a,x.n.b,x.n.c,x.n.d,x.e] 0).run Tryz.prog w=.ok (.agg #[x.n.a,x.n.b,x.n.c,x.n.d]) w:=zK
theorem Jb (x:Dw) (w:World):(part 3 #[x.n.a,x.n.b,x.n.c,x.n.d,x.e] 4).run Tryz.prog w=.ok (.int .i64 x.e) w:=zK
theorem UK (x y:Dw) (w:World):(Op.equalIn 10000 110 (.agg #[x.n.a,x.n.b,x.n.c,x.n.d,x.e]) (.agg #[y.n.a,y.n.b,y.n.c,y.n.d,y.e])).run Tryz.prog w=.ok (decide (x=y)) w:=by
 have hS:Tryz.prog.underlying 110=some (.struct (Tryz.prog.fieldsOf 110)):=zK;rw [show (10000:Nat)=9999+1 from rfl,run_equalIn_agg w 9999 110 _ _ hS zK];simp only [Program.fieldsOf,Tryz.underlying110];have e2:decide (x=y)=(decide (x.n=y.n) && x.e == y.e):=by
  obtain ⟨n,e⟩:=x;obtain ⟨n',e'⟩:=y;by_cases h1:n=n'<;>by_cases h2:e=e'<;>simp [h1,h2]
 have e:(x.n.a == y.n.a && (x.n.b == y.n.b && (x.n.c == y.n.c && x.n.d == y.n.d)))=decide (x.n=y.n):=by
  obtain ⟨⟨a,b,c,d⟩,e⟩:=x;obtain ⟨⟨a',b',c',d'⟩,e'⟩:=y;by_cases h1:a=a'<;>by_cases h2:b=b'<;>by_cases h3:c=c'<;>by_cases h4:d=d'<;>simp [h1,h2,h3,h4]
 have hq:(Op.equalIn 9999 3 (.int .i64 x.e) (.int .i64 y.e)).run Tryz.prog w=.ok (x.e == y.e) w:=run_equalIn_int w 9998 3 _ _ _ _ Tryz.underlying3;rw [e2];unfold Op.eqFields;rw [if_pos zD,Sem.run_bind,Ja];simp only [Result.andThen_ok,Sem.run_bind];rw [Ja];simp only [Result.andThen_ok];rw [Wn,e];simp only [Result.andThen_ok];cases decide (x.n=y.n)
 ·simp
 ·simp only [Bool.not_true,Bool.false_eq_true,if_false,Bool.true_and];unfold Op.eqFields;rw [if_pos zD,Sem.run_bind,Jb];simp only [Result.andThen_ok,Sem.run_bind];rw [Jb];simp only [Result.andThen_ok];rw [hq];simp only [Result.andThen_ok];cases (x.e == y.e)
  ·simp
  ·simp [Op.eqFields]
theorem UL (A:Option Addr) (n cap:Nat) (B:Option Addr) (c:Nat) (vs us:List Dw) (w:World) (h:RdD w A n vs) (h':RdD w B n us) (hn:n<=1048576):Calls Tryz.prog 96 #[.slice A n cap,.slice B n c] w fun e w'=>e=.returned (.bool (decide (vs=us)))/\Below w w w':=by
 have H:=zH h;have H':=zH h';clear h h';go_enter Tryz.func96,Tryz.ntmps96;go_wp2_with fail;go_loopg [5] n (fun r i wr=>∃ k:Nat,k+r=n/\i=.int .i64 k/\vs.take k=us.take k/\Below w w wr)
 case atStart=>exact ⟨0,zO,rfl,zI,zW⟩
 case round =>
  obtain ⟨k,hk,rfl,htk,hb⟩:=hrel;have HTK:=zH htk;clear htk;by_cases hlt:k < n
  ·obtain ⟨b,off,x,rfl,hB,hd,c0,c1,c2,c3,c4⟩:=(H.below hb).at_ hlt;obtain ⟨b',off',x',rfl,hB',hd',d0,d1,d2,d3,d4⟩:=(H'.out.below hb).at_ hlt;have HD:=zH hd;have HD':=zH hd';clear hd hd';have hi0:(0:Int)<=(k:Int):=zO;have hi1:(k:Int) < (n:Int):=zO;have hM:Tryz.prog.eqGuardType Tryz.prog.depth 110=false:=zK;by_cases hx:x=x'
   ·subst hx;have hE:∀ w,(Op.equalIn 10000 110 (.agg #[x.n.a,x.n.b,x.n.c,x.n.d,x.e]) (.agg #[x.n.a,x.n.b,x.n.c,x.n.d,x.e])).run Tryz.prog w=.ok true w:=fun w=>by rw [UK];simp
    go_wp2_with fail;go_quiet (fail)
    go_wp2_with fail;go_roundg (gk - 1)
    case measure=>omega
    case rel=>exact ⟨k+1,zO,by go_num,by rw [eZ HD.out,eZ HD'.out,HTK.out],bW hb _⟩
   ·have hE:∀ w,(Op.equalIn 10000 110 (.agg #[x.n.a,x.n.b,x.n.c,x.n.d,x.e]) (.agg #[x'.n.a,x'.n.b,x'.n.c,x'.n.d,x'.e])).run Tryz.prog w=.ok false w:=fun w=>by rw [UK,decide_eq_false hx]
    have hne:¬ vs=us:=by
     intro e;rw [e] at HD;have:=HD.out;rw [HD'.out] at this;injection this with this _;exact hx this.symm
    go_wp2_with fail;go_quiet (fail)
    go_wp2_with fail;go_ret;exact ⟨aw (by simp [hne]),bW hb _⟩
  ·have he:vs=us:=by
    have:=HTK.out;rwa [List.take_of_length_le kB,List.take_of_length_le (by have:=H'.out.1;omega)] at this
   go_wp2_with fail;go_ret;exact ⟨aw (by simp [he]),hb⟩
def sc (i:Nat) (x:List Dw):List Dw:=x.map fun v=>(iR v (cV i)).getD Dw.zero
theorem tW {l l':List (List Dw)} {k i:Nat} {y x:List Dw} (hd:l.drop k=y :: l.drop (k+1)) (hd':l'.drop k=x :: l'.drop (k+1)) (he:l.take k=(l'.map (sc i)).take k):(l.take (k+1)=(l'.map (sc i)).take (k+1)) ↔ sc i x=y:=by
 have e1:=eZ hd;have e2:(l'.map (sc i)).take (k+1)=(l'.map (sc i)).take k++[sc i x]:=by
  rw [<- List.map_take,<- List.map_take,eZ hd',List.map_append];rfl
 rw [e1,e2,he];constructor
 ·intro h;have:=List.append_cancel_left h;injection this with this _;exact this.symm
 ·intro h;rw [h]
theorem Jc {p:Prop} (h:p:=by
  go_wp2_with fail;go_roundg (go - 1)
  case measure=>omega
  case rel=>exact ⟨ii+1,zO,zO,by go_num,hb⟩):p:=h
theorem mz (A:Option Addr) (n cap q:Nat) (B:Option Addr) (cb:Nat) (l l':List (List Dw)) (k0:Nat) (w:World) (h:RdSS bL w 5 A n l) (h':RdSS bL w 5 B n l') (h1:1<=q) (h4:q<=4) (hn:n=2 ^ q) (hl:∀ x ∈ l,x.length=n/\∀ v ∈ x,lm v=true) (hl':∀ x ∈ l',x.length=n/\∀ v ∈ x,lm v=true)
  (hk0:k0 < 8) (hsc:∀ i,i < 8->∀ x ∈ l',∀ v ∈ x,iR v (cV i)=some ((iR v (cV i)).getD Dw.zero)) (heq:l=l'.map (sc k0)) (hne:∀ i,i < k0->¬ l=l'.map (sc i)) :
  Calls Tryz.prog 54 #[.slice A n cap,.slice B n cb] w fun e w'=>e=.returned (.tuple #[k0,.bool true])/\Below w w w':=by
 have H:=zH h;have H':=zH h';have HN:=zH hn;have HL:=zH hl;have HL':=zH hl';have HSC:=zH hsc;have HEQ:=zH heq;have HNE:=zH hne;have hn16:n<=16/\2<=n:=by rw [hn];exact ng h1 h4
 clear h h' hn hl hl' hsc heq hne;go_enter Tryz.func54,Tryz.ntmps54;go_wp2_with fail;refine (sd _ n _ q l _ H h1 h4 HN HL).mono ?_;rintro e w1 ⟨rfl,b1⟩;go_wp2_with fail;refine (sd _ n _ q l' _ (H'.out.below b1) h1 h4 HN HL'.out).mono ?_;rintro e w2 ⟨rfl,b2⟩;have B2:=zH (aa b1 b2);clear b1 b2;go_wp2_with fail;go_loopg [6] 8 (fun r i wr=>∃ ii:Nat,ii+r=8/\ii<=k0/\i=.int .i64 ii/\Below w w wr)
 case atStart=>exact ⟨0,zO,zO,rfl,B2.out⟩
 case round =>
  obtain ⟨ii,hii,hik,rfl,hb0⟩:=hrel;have HB0:=zH hb0;clear hb0 B2;have hi8:ii < 8:=zO;have hI8:(ii:Int) < 8:=zO;go_wp2_with fail;obtain ⟨go,rfl⟩:∃ go,go=gk:=⟨_,rfl⟩;go_loopg [7,8] n (fun r s i wr=>∃ k:Nat,k+r=n/\s=.bool (decide (l.take k=(l'.map (sc ii)).take k))/\i=.int .i64 k/\Below w w wr)
  case atStart=>exact ⟨0,zO,rfl,rfl,HB0.out⟩
  case round =>
   obtain ⟨k,hk,rfl,rfl,hb⟩:=hrel;by_cases hs:l.take k=(l'.map (sc ii)).take k
   ·rw [decide_eq_true hs];by_cases hlt:k < n
    ·obtain ⟨b,off,x,X,cx,rfl,hB,hd,c0,hxc,hxr⟩:=(H'.out.below hb).at_ hlt;obtain ⟨b',off',y,X',cx',rfl,hB',hd',d0,hxc',hxr'⟩:=(H.below hb).at_ hlt;have hx1:x ∈ l':=List.mem_of_mem_drop (i:=k) (by rw [hd];simp);obtain ⟨hxl,hxv⟩:=HL'.out x hx1;obtain ⟨hyl,hyv⟩:=HL.out y (List.mem_of_mem_drop (i:=k) (by rw [hd'];simp));have HSX:=zH (HSC ii hi8 x hx1);rw [hxl] at c0 hxc hxr;rw [hyl] at d0 hxc' hxr';have RX:=zH (show RdD wr X n x from ⟨hxl,hxr⟩);have RX':=zH (show RdD wr X' n y from ⟨hyl,hxr'⟩);have HXV:=zH hxv;have HTS:=zH (tW hd' hd hs);clear hd hd' hxl hxv hxr hxr' hyl hyv hx1 hs;have hi0:(0:Int)<=(k:Int):=zO;have hi1:(k:Int) < (n:Int):=zO;go_upto_region 10 with fail
     go_cut [9,10] (fun v9 v10 wx=>v10=.bool true/\∃ Z cz,v9=.slice Z n cz/\RdD wx Z n (sc ii x)/\Below wr wr wx)
     case first =>
      have V0:Below wr wr wr.drew:=(zW).drew
      go_region_held3 (fun w'=>w'.cell? ⟨b,off+k,none⟩=some (.slice X n cx)) (first | exact (V2.cell (p:=⟨b,off+k,none⟩) hB).trans c0 | exact (V1.cell (p:=⟨b,off+k,none⟩) hB).trans c0 | go_keep)
       (first
        |(go_at_call 95;refine (jt ii _ hi8).mono ?_;rintro e w5 ⟨rfl,b5⟩;have V1:=aa V0 b5)
        |(go_at_call 94;refine (I9 (cV ii) (fun v=>(iR v (cV ii)).getD Dw.zero) _ n _ q x _ (RX.below V1) h1 h4 HN.out HXV.out HSX.out).mono ?_;rintro e w6 ⟨Z,cz,rfl,o6,b6⟩;have V2:=aa V1 b6;have Z6:=RdD.own o6)
        |fail)
      all_goals go_wp2_with fail
      all_goals go_meet
      all_goals exact ⟨rfl,Z,cz,rfl,Z6,V2⟩
     case rest =>
      obtain ⟨rfl,Z,cz,rfl,hz,bb⟩:=hcut;have RZ:=zH hz;have RX7:=zH (RX'.out.below bb);have d7:=(bb.cell (p:=⟨b',off'+k,none⟩) hB').trans d0;have B7:=zH (hb.trans (bb.mono hb.size));clear hz bb c0 d0 RX RX' hb HXV HSX;go_wp2_with fail;refine (UL _ n _ _ _ (sc ii x) y _ RZ RX7 zO).mono ?_;rintro e w8 ⟨rfl,b8⟩;have B8:=zH (B7.trans (b8.mono B7.size));have HDD:=zH (show decide (sc ii x=y)=decide (l.take (k+1)=(l'.map (sc ii)).take (k+1)) from decide_eq_decide.2 HTS.symm);clear b8 B7;go_wp2_with fail;go_roundg (gk - 1)
      case measure=>omega
      case rel=>exact ⟨k+1,zO,by rw [HDD.out],by go_num,B8.out⟩
    ·have he:l=l'.map (sc ii):=by
      rwa [List.take_of_length_le kB,List.take_of_length_le (by rw [List.length_map];have:=H'.out.1;omega)] at hs
     obtain rfl:ii=k0:=by
      rcases Nat.lt_or_ge ii k0 with h | h
      ·exact absurd he (HNE.out ii h)
      ·omega
     clear hs he;go_wp2_with fail;exact bodyPost_ret (v:=.tuple #[ii,.bool true]) (by simp [results,Tryz.results54,go_sem]) rfl ⟨rfl,hb⟩
   ·rw [decide_eq_false hs];have hlt:ii < k0:=by
     rcases Nat.lt_or_ge ii k0 with h | h
     ·exact h
     ·exfalso
      obtain rfl:ii=k0:=zO;exact hs (by rw [<- HEQ.out])
    clear hs;by_cases hkn:k < n
    ·have hi0:(0:Int)<=(k:Int):=zO;have hi1:(k:Int) < (n:Int):=zO;exact Jc
    ·exact Jc
section
variable {P:Program} {w:World}
theorem mR {ops:Array Oper} {rest:List Oper} {o:Oper} {a:Act} {Q:Exit->Act->World->Prop} (hgd:o.guard=none) (s x:Operand) (t:TypeId)
  (ho:o.op=.call { callee:=.builtin .append,args:=#[s,x],argTypes:=#[t,t] })
  {base e:Nat} {z:Value} {bytes:Nat} (ht:P.underlying t=some (.slice e)) (hinfo:(P.info? e).map (fun i=>(i.zero,i.size,i.bytes))=some (some z,1,bytes))
  (hzs:z.cells.size=1) {A:Option Addr} {n c:Nat} {xs:List Value} (hs:a.eval s=.slice A n c) (hown:w.ownsRow base e 1 (.slice A n c) n xs)
  {B:Nat} {u:Value} (hx:a.eval x=.slice (some ⟨B,0,none⟩) 1 1) (hB:Bx w B e #[u]) (h1:u.oneCell'=true) (hn:n<=1000) (hbytes:bytes<=1000) (hbase:base<=w.heap.size)
  (h:∀ g cap w',w'.ownsRow base e 1 (.slice (some ⟨g,0,none⟩) (n+1) cap) (n+1) (xs++[u])->w.grownBy w' (Value.slice A n c).ownBlock->((Value.slice A n c).ownBlock=some g\/g=w.heap.size)->wpList P ops Q rest (a.put o.dst (.slice (some ⟨g,0,none⟩) (n+1) cap)) w'):wpList P ops Q (o :: rest) a w:=by
 obtain ⟨i,hi,hz,hs',hby⟩:=info_parts hinfo;have hm:(n+1) * bytes<=1001 * 1000:=Nat.mul_le_mul zO hbytes;exact wpList_append_lies w hgd s x t ho base e i z 1 bytes ht hi hz hs' hby hzs zO _ n xs hs hown ⟨B,0,none⟩ 1 1 [u] hx rfl (World.news_of_block hB) (by simpa using h1) zO (by unfold maxLen;omega) zO hbase _ rfl (fun g cap w' q1 q2 q3 _=>h g cap w' q1 q2 q3)
end
theorem hI {w:World} {b b':Nat} {e e':TypeId} {sz sz' n n':Nat} {v v':Value} {xs xs':List Value} (h:w.ownsRow b e sz v n xs) (h':w.ownsRow b' e' sz' v' n' xs') (hne:e ≠ e'):v.ownBlock=none\/v.ownBlock ≠ v'.ownBlock:=by
 rcases h.2 with ⟨rfl,_⟩ | ⟨g,cap,cur,rfl,_,hh,_⟩
 ·exact .inl rfl
 ·right
  intro he;rcases h'.2 with ⟨rfl,_⟩ | ⟨g',cap',cur',rfl,_,hh',_⟩
  ·cases he
  ·simp only [Value.ownBlock,Option.some.injEq] at he;subst he;rw [hh] at hh';injection hh' with hh'
   injection hh' with _ h2
   exact hne h2
def RowsD (w:World) (base g n c:Nat) (l:List (List Dw)):Prop :=
 l.length=n/\∃ vs:List Value,w.ownsRow base 64 1 (.slice (some ⟨g,0,none⟩) n c) n vs/\∀ (j:Nat) (x:List Dw),l[j]? = some x->∃ B c',vs[j]? = some (Value.slice B x.length c')/\w.ownsRow base 110 5 (.slice B x.length c') x.length (bL x)
section
variable {w w':World} {base g n c:Nat} {l:List (List Dw)}
theorem RowsD.below (h:RowsD w base g n c l) (hb:Below w w w'):RowsD w' base g n c l:=by
 obtain ⟨hl,vs,h1,h2⟩:=h;exact ⟨hl,vs,ab h1 hb,fun j x hx=>(h2 j x hx).imp fun B h=>h.imp fun c' h=>⟨h.1,ab h.2 hb⟩⟩
theorem RowsD.rd (h:RowsD w base g n c l):RdSS bL w 5 (some ⟨g,0,none⟩) n l:=by
 obtain ⟨hl,vs,h1,h2⟩:=h;exact ⟨hl,vs,Rd.own h1,fun j x hx=>(h2 j x hx).imp fun B h=>h.imp fun c' h=>⟨h.1,ao h.2,Rd.own h.2⟩⟩
theorem RowsD.lt (h:RowsD w base g n c l):g < w.heap.size:=by
 obtain ⟨hl,vs,h1,h2⟩:=h;exact (h1.lt g rfl).2
theorem RowsD.other {k:Nat} (h:RowsD w base g n c l) (hg:w.grownBy w' (some k)) (hne:g ≠ k) (ht:∀ B m cc x,w.ownsRow base 110 5 (.slice B m cc) m x->(Value.slice B m cc).ownBlock=none\/(Value.slice B m cc).ownBlock ≠ some k):RowsD w' base g n c l:=by
 obtain ⟨hl,vs,h1,h2⟩:=h;exact ⟨hl,vs,h1.kept hg (.inr fun e=>hne (by injection e)),fun j x hx=>(h2 j x hx).imp fun B h=>h.imp fun c' h=>⟨h.1,h.2.kept hg (ht _ _ _ _ h.2)⟩⟩
theorem RowsD.app {g' c' n0:Nat} {B:Option Addr} {cx:Nat} {x:List Dw} {vs:List Value} (hl:l.length=n) (h1:w.ownsRow base 64 1 (.slice (some ⟨g,0,none⟩) n c) n vs) (h2:∀ (j:Nat) (x:List Dw),l[j]? = some x->∃ B c',vs[j]? = some (Value.slice B x.length c')/\w.ownsRow base 110 5 (.slice B x.length c') x.length (bL x))
  (hx0:x.length=n0) (hx:w.ownsRow base 110 5 (.slice B n0 cx) n0 (bL x)) (ho:w'.ownsRow base 64 1 (.slice (some ⟨g',0,none⟩) (n+1) c') (n+1) (vs++[.slice B n0 cx])) (hg:w.grownBy w' (Value.slice (some ⟨g,0,none⟩) n c).ownBlock):RowsD w' base g' (n+1) c' (l++[x]):=by
 subst hx0;have hvl:vs.length=n:=by have:=h1.1;omega
 refine ⟨by simp [hl],vs++[.slice B x.length cx],ho,fun j y hy=>?_⟩;rcases Nat.lt_or_ge j n with hj | hj
 ·rw [List.getElem?_append_left zO] at hy;obtain ⟨B',c2,a1,a2⟩:=h2 j y hy;exact ⟨B',c2,by rw [List.getElem?_append_left zO];exact a1,a2.kept hg (hI a2 h1 zD)⟩
 ·rw [List.getElem?_append_right zO] at hy;have hj0:j=n:=by
   have:=(List.getElem?_eq_some_iff.1 hy).1;simp at this;omega
  subst hj0;rw [hl,Nat.sub_self] at hy;obtain rfl:x=y:=by simpa using hy
  exact ⟨B,cx,by rw [List.getElem?_append_right zO,hvl,Nat.sub_self];rfl,hx.kept hg (hI hx h1 zD)⟩
theorem RowsD.alloc (h:RowsD w base g n c l) (o:Obj):RowsD (w.alloc o) base g n c l:=h.below ((zW).alloc zR _)
end
theorem PX {gx gy g1 k cx:Nat} {w:World} {o:Obj} (hne:gx ≠ gy) (ly:gy < w.heap.size) (e:(Value.slice (some ⟨gx,0,none⟩) k cx).ownBlock=some g1\/g1=(w.alloc o).heap.size):g1 ≠ gy:=by
 rcases e with e | e
 ·have e':some gx=some g1:=e;injection e' with e'
  omega
 ·have:(w.alloc o).heap.size=w.heap.size+1:=zI;omega
theorem uv (f:Nat->List Dw) (k:Nat):(List.range (k+1)).map f=(List.range k).map f++[f k]:=by rw [List.range_succ,List.map_append];rfl
end Go.Proofs.YtmenmibfkojnoaaGreat
