/- Contracts of the drawing of Clifford gat. -/
import Derived.Test.YtmenmibfkojnoaaGreatY34
set_option maxHeartbeats 16000000
set_option maxRecDepth 100000
namespace Go.Proofs.YtmenmibfkojnoaaGreat
open Go.RowKit
set_option linter.unusedVariables false
theorem Ok {y:Int} (h:y ∈ [(1:Int),2,3,4,5,6,9,10,11,4,9]):1<=aA y:=by
 have h2:y=1\/y=2\/y=3\/y=4\/y=5\/y=6\/y=9\/y=10\/y=11:=by simp at h;omega
 rcases h2 with h | h | h | h | h | h | h | h | h<;>subst h<;>decide
theorem SP {p:Prop} (h:p:=by simp [results,Tryz.results118,go_sem,q0,q1,q2,q3]):p:=h
theorem Kl {p:Prop} (h:p:=by
  rintro e w9 ⟨k,a,b,c,rfl,⟨hk',hok⟩,hc9,g9⟩;have HOK:=zH hok;have C9:=zH hc9;have X9:=zH (cl g9 X5.out (show w.heap.size ≠ g by omega));have G9:=zH (a7 G5 g9);obtain ⟨q0,q1,q2,q3,f0,f1,f2,f3⟩:=X9.four;have l9:=X9.lt;clear hk' hok hc9 g9 ht hk1;go_wp2_with fail;exact bodyPost_ret (v:=.agg #[k,a,b,c]) SP rfl ⟨k,a,b,c,rfl,HOK.out,tX C9.out hg,L9 G9.out zR⟩):p:=h
theorem Cd (g n:Nat) (w:World) (h:Cur w g) (h1:1<=n) (h4:n<=4) :
  Calls Tryz.prog 118 #[.pointer (some ⟨g,0,none⟩),n] w (vQ (fun x=>fJ x.k x.a x.b x.c n=true) g w):=by
 have hg:=h.lt;obtain ⟨W1,hW1⟩:∃ W1,W1=(w.alloc ZO.zG).alloc (.cells #[(1:Int),(2:Int),(3:Int),(4:Int),(5:Int),(6:Int),(9:Int),(10:Int),(11:Int),(4:Int),(9:Int)] 3):=⟨_,rfl⟩;have C1:=zH (show Cur W1 g from hW1 ▸ a9 (a9 h _) _);have X1:=zH (show Bx W1 w 39 #[(0:Int),(0:Int),(0:Int),(0:Int)] from hW1 ▸ (Bx.new w _ _).alloc _);have G1:=zH (show w.grownBy W1 (some g) from hW1 ▸ bJ (bJ (mA w g) _) _);have OL:=zH (show W1.ownsRow (g+1) 3 1 (.slice (some ⟨w.heap.size+1,0,none⟩) 11 11) 11 (aB [1,2,3,4,5,6,9,10,11,4,9]) from by
  have:((w.alloc ZO.zG).alloc (.cells #[(1:Int),(2:Int),(3:Int),(4:Int),(5:Int),(6:Int),(9:Int),(10:Int),(11:Int),(4:Int),(9:Int)] 3)).ownsRow (g+1) 3 1 (.slice (some ⟨(w.alloc ZO.zG).heap.size,0,none⟩) 11 11) 11 (aB [1,2,3,4,5,6,9,10,11,4,9]):=World.ownsRow_lit (w.alloc ZO.zG) #[(1:Int),(2:Int),(3:Int),(4:Int),(5:Int),(6:Int),(9:Int),(10:Int),(11:Int),(4:Int),(9:Int)] 11 zJ zM rfl;rw [World.size_alloc] at this;rw [hW1];exact this)
 have HW:=zH hW1;clear h hW1;go_enter Tryz.func118,Tryz.ntmps118;go_wp2_with fail;rw [<- HW.out];refine (fM g _ 11 11 [1,2,3,4,5,6,9,10,11,4,9] _ C1 OL zO zO).mono ?_;rintro e w5 ⟨y,rfl,hy,hc5,g5⟩;have hk1:=Ok hy;have C5:=zH hc5;have X5:=zH (cl g5 X1.out (show w.heap.size ≠ g by omega));have G5:=zH (a7 G1 g5);clear hy hc5 g5 X1 C1 G1 OL HW;obtain ⟨ar,har⟩:∃ a,aA y=a:=⟨_,rfl⟩;rw [har] at hk1;have HAR:=zH har;have HA7:=zH (show aA 4=1 by decide);clear har;by_cases ht:(n:Int) < ar
 ·go_wp2_with fail;refine (bX _ _).mono ?_;rintro e w' ⟨rfl,rfl⟩;rw [HAR.out];go_wp2_with fail;refine (pf g n 4 _ C5.out h1 h4 (by rw [HA7.out];omega) (by rw [HA7.out];omega)).mono ?_;exact Kl
 ·go_wp2_with fail;refine (bX _ _).mono ?_;rintro e w' ⟨rfl,rfl⟩;rw [HAR.out];go_wp2_with fail;refine (pf g n y _ C5.out h1 h4 (by rw [HAR.out];omega) (by rw [HAR.out];omega)).mono ?_;exact Kl
theorem Ce {p:Prop} (h:p:=by first | exact CD.out | exact HC.out):p:=h
theorem Cf {p:Prop} (h:p:=by have:=(OA.lt q hq).1;omega):p:=h
theorem FN (g n:Nat) (most:Nat) (w:World) (h:Cur w g) (h1:1<=n) (h4:n<=4) (hm:most<=60) :
  Calls Tryz.prog 73 #[.pointer (some ⟨g,0,none⟩),n,most] w (Jl (fun N=>N=n) most g w):=by
 have hg:=h.lt;have hz4:(Value.agg #[(0:Int),(0:Int),(0:Int),(0:Int)]).cells.size=4:=rfl;obtain ⟨W1,hW1⟩:∃ W1,W1=(w.alloc (.cells #[(0:Int),.slice none 0 0] 45)).alloc (.cells #[n,.slice none 0 0] 45):=⟨_,rfl⟩;have C1:=zH (show Cur W1 g from hW1 ▸ a9 (a9 h _) _);have R1:=zH (show Bx W1 w 45 #[(0:Int),.slice none 0 0] from hW1 ▸ (Bx.new w _ _).alloc _);have E1:=zH (show Bx W1 (w.heap.size+1) 45 #[n,.slice none 0 0] from hW1 ▸ Bx.new' zI);have G1:=zH (show w.grownBy W1 (some g) from hW1 ▸ bJ (bJ (mA w g) _) _);have HW:=zH hW1;clear h hW1;go_enter Tryz.func73,Tryz.ntmps73;go_wp2_with fail;rw [<- HW.out];refine (dz g _ _ C1 zO).mono ?_;rintro e w2 ⟨y,rfl,⟨hy,_⟩,hc,gg⟩;obtain ⟨hy0,hy1⟩:=hy zO;obtain ⟨m,rfl⟩:∃ m:Nat,y=m:=⟨y.toNat,zO⟩;have C2:=zH hc;have R2:=zH (cl gg R1.out (show w.heap.size ≠ g by omega))
 have E2:=zH (cl gg E1.out (show w.heap.size+1 ≠ g by omega));have G2:=zH (a7 G1 gg);clear hy hc gg C1 R1 E1 G1 HW;go_wp2_with fail;go_loopg [9] m (fun r i wr=>∃ (k:Nat) (A:Option Addr) (c:Nat) (gs:List Gt),k+r=m/\i=.int .i64 k/\gs.length=k/\Bx wr w 45 #[(0:Int),.slice none 0 0]/\Bx wr (w.heap.size+1) 45 #[n,.slice A k c]/\wr.ownsRow w 39 4 (.slice A k c) k (af gs)/\Cur wr g/\w.grownBy wr (some g))
 case atStart=>exact ⟨0,none,0,[],zO,rfl,rfl,R2.out,E2.out,World.ownsRow_nil _ _ _ _,C2.out,G2.out⟩
 case round =>
  clear C2 R2 E2 G2;obtain ⟨k,A,c,gs,hk,rfl,hl,hr,he,ho,hc,hgr⟩:=hrel;have HL:=zH hl;have HR:=zH hr;have HE:=zH he;have HO:=zH ho;have HC:=zH hc;have HG:=zH hgr;have lr:=hr.lt;have le:=he.lt;clear hl hr he ho hc hgr;obtain ⟨q0,q1,f0,f1⟩:=HE.two;by_cases hlt:k < m
  ·have CD:=zH (show Cur wr.drew g from HC.out);go_wp2_with fail
   go_region_law (first
    |(go_simp;go_at_call 118;(with_reducible refine (Cd g n _ Ce h1 h4).mono ?_);rintro e w5 ⟨k5,a5,b5,c5,rfl,_,hc5,g5⟩;have g5:=kC g5;have E5:=cl g5 HE.out (show w.heap.size+1 ≠ g by omega);have R5:=cl g5 HR.out (show w.heap.size ≠ g by omega);have O5:=kv g5 HC.out HO.out zD;have s5:=g5.size;have ⟨p0,p1,p2,p3⟩:=E5.two;have e5:=E5.lt;have OA:=O5.alloc (.cells #[k5,a5,b5,c5] 39);have CA:=a9 hc5 (.cells #[k5,a5,b5,c5] 39);have GA:=bJ (a7 HG.out g5) (.cells #[k5,a5,b5,c5] 39))
    |(refine bv zF (.tmp 22) (.tmp 26) 24 zF Tryz.underlying24 ak hz4 zD zA OA zA (Rd.lit w5 39 #[k5,a5,b5,c5] 1 4 rfl) zV zO zD zS ?_;intro A7 c7 w7 o7 g7;have E7:=az OA g7 (E5.alloc _) zD;have R7:=az OA g7 (R5.alloc _) zD;have C7:=CA.row g7 (fun q hq=>Cf);have G7:=rW GA g7 (fun q hq=>(OA.lt q hq).1);have ⟨t0,t1,t2,t3⟩:=E7.two;have e7:=E7.lt)
    |fail)
   all_goals go_wp2_with fail
   all_goals go_roundg (gk - 1)
   all_goals first
    |omega
    |exact ⟨k+1,A7,c7,gs++[⟨k5,a5,b5,c5⟩],zO,by go_num,by simp [HL.out],R7.far (show w.heap.size ≠ w.heap.size+1 by omega) _,E7.t1 _,by rw [av];exact eW o7 (am o7 E7 zD) _,C7.setCell (by show g < w.heap.size+1;omega) _,eS G7 (by show w.heap.size<=w.heap.size+1;omega) _⟩
  ·obtain rfl:k=m:=zO;obtain ⟨r0,r1,g0,g1⟩:=HR.two;go_wp2_with fail;refine bodyPost_ret (v:=.agg #[n,.slice A k c]) (by simp [results,Tryz.results73,go_sem,r0,r1]) rfl ⟨n,A,k,c,gs,rfl,HL.out,zO,rfl,i5 HO.out (am HO.out HR.out zD),tY HC.out hg,RV HG.out zR⟩
def tq:List Gt->Nat
 |[]=>0
 |g :: r=>(if g.k=7\/g.k=8\/g.k=12 then 1 else 0)+tq r
theorem wM:∀ gs:List Gt,tq gs<=gs.length
 |[]=>zR
 |g :: r=>by
  have ih:=wM r;rw [tq,List.length_cons];split<;>omega
theorem Cg:∀ a b:List Gt,tq (a++b)=tq a+tq b
 |[],b=>(Nat.zero_add _).symm
 |g :: r,b=>by rw [List.cons_append,tq,tq,Cg r b];omega
theorem Ol {gs:List Gt} {x:Gt} {m:Nat} (h:tq gs<=m):tq (gs++[x])<=m+1:=by
 rw [Cg];have:=wM [x];simp only [List.length_cons,List.length_nil] at this;omega
def Om (most g:Nat) (w:World) (e:Ending) (w':World):Prop :=
 ∃ (N:Int) (A:Option Addr) (n c:Nat) (gs:List Gt),e=.returned (.agg #[N,.slice A n c])/\gs.length=n/\n<=64/\tq gs<=most+1/\w'.ownsRow w 39 4 (.slice A n c) n (af gs)/\Cur w' g/\w.grownBy w' (some g)
theorem sY {p:Prop} (h:p:=by simp [results,Tryz.results75,go_sem,r0,r1]):p:=h
theorem Ch {p:Prop} (h:p:=by show w.heap.size<=ge;omega):p:=h
theorem Ci (g:Nat) (most:Nat) (w:World) (h:Cur w g) (hm:most<=58) :
  Calls Tryz.prog 75 #[.pointer (some ⟨g,0,none⟩),most] w (Om most g w):=by
 have hg:=h.lt;have hz4:(Value.agg #[(0:Int),(0:Int),(0:Int),(0:Int)]).cells.size=4:=rfl;have C1:=zH (a9 h (.cells #[(0:Int),.slice none 0 0] 45));have R1:=zH (Bx.new w 45 #[(0:Int),.slice none 0 0]);have G1:=zH (bJ (mA w g) (.cells #[(0:Int),.slice none 0 0] 45));clear h;go_enter Tryz.func75,Tryz.ntmps75;go_wp2_with fail;refine (dz g 3 _ C1 zO).mono ?_;rintro e w2 ⟨y,rfl,⟨hy,_⟩,hc,gg⟩;obtain ⟨hy0,hy1⟩:=hy zO;obtain ⟨q,hq⟩:∃ q:Nat,1+y=q:=⟨(1+y).toNat,zO⟩;have hq1:1<=q:=zO;have hq4:q<=3:=zO;have C2:=zH hc;have R2:=zH (cl gg R1.out (show w.heap.size ≠ g by omega));have G2:=zH (a7 G1 gg);have hs2:=(Jg gg).size;clear hy hc gg C1 R1 G1;go_wp2_with fail;clear hq hy0 hy1;refine (Bj g q most _ C2 hq1 zO zO).mono ?_;rintro e w3 ⟨N,A,n,c,gs,rfl,hl,hn,rfl,o3,hc,gg⟩;have hs3:=gg.size;have HL:=zH hl
 have HHB:=zH (show tq gs<=most from Nat.le_trans (wM gs) zO);have OB:=zH (show (w3.alloc (.cells #[q,.slice A n c] 45)).ownsRow w 39 4 (.slice A n c) n (af gs) from (ae o3 zO).alloc _);have CB:=zH (a9 hc (.cells #[q,.slice A n c] 45));have RB:=zH ((cl gg R2.out (show w.heap.size ≠ g by omega)).alloc (.cells #[q,.slice A n c] 45));have EB:=zH (Bx.new w3 45 #[q,.slice A n c]);have GB:=zH (bJ (a7 G2 gg) (.cells #[q,.slice A n c] 45));have hR3:w.heap.size < w3.heap.size:=(cl gg R2.out (show w.heap.size ≠ g by omega)).lt;clear hl o3 hc gg C2 R2 G2;go_wp2_with fail;refine (dz g 12 _ CB zO).mono ?_;rintro e w4 ⟨z,rfl,_,hc,gg⟩;have HO:=zH (kv gg CB OB zD);have HC:=zH hc;have HR:=zH (cl gg RB.out (show w.heap.size ≠ g by omega));have HE:=zH (cl gg EB.out (show w3.heap.size ≠ g by omega));have HG:=zH (a7 GB gg);have lr:=HR.lt
 have le:=HE.lt;have hgs:g+1<=w4.heap.size:=hc.lt;clear hc gg OB CB RB EB GB;generalize hgE:w3.heap.size=ge at HE hR3 le ⊢;clear hgE hs3;by_cases z0:z=0
 ·subst z0;have OL:=zH (show (w4.alloc (.cells #[(0:Int),(1:Int),(4:Int),(5:Int),.int .i64 (-1)] 3)).ownsRow (g+1) 3 1 (.slice (some ⟨w4,0,none⟩) 5 5) 5 (aB [0,1,4,5, -1]) from World.ownsRow_lit w4 #[(0:Int),(1:Int),(4:Int),(5:Int),.int .i64 (-1)] 5 hgs zM rfl);have CA:=zH (a9 HC (.cells #[(0:Int),(1:Int),(4:Int),(5:Int),.int .i64 (-1)] 3));go_wp2_with fail;refine (fM g _ 5 5 [0,1,4,5, -1] _ CA OL zO zO).mono ?_;rintro e w5 ⟨x,rfl,_,hc,gg⟩;have O5:=zH (kv gg CA (HO.alloc _) zD);have C5:=zH hc;have R5:=zH (cl gg (HR.alloc _) (show w.heap.size ≠ g by omega));have E5:=zH (cl gg (HE.alloc _) (show ge ≠ g by omega));have G5:=zH (a7 (bJ HG _) gg);have l5:=E5.lt;clear hc gg OL CA;obtain ⟨r0,r1,_,_⟩:=R5.two;obtain ⟨u0,u1,v0,v1⟩:=E5.two;go_wp2_with fail
  refine bodyPost_ret (v:=.agg #[x,.slice A n c]) sY rfl ⟨x,A,n,c,gs,rfl,HL.out,zO,Nat.le_succ_of_le HHB.out,i5 (eW O5.out (am O5.out E5.out zD) _) (am O5.out R5.out zD),tY (C5.setCell (by show g < ge;omega) _) hg,RV (eS G5.out Ch _) zR⟩
 ·by_cases z1:z=1
  ·subst z1;obtain ⟨u0,u1,v0,v1⟩:=HE.two;have CD:=zH (show Cur w4.drew g from HC.out);have hmx:(if (1:Int) > (q:Int) then (1:Int) else (q:Int))=q:=by split<;>omega
   have HMX:=zH hmx;clear hmx;go_wp2_with fail
   go_region_law (first
    |(go_simp;go_at_call 123;(with_reducible refine (Ns _ _ _).mono ?_);rintro e w5 ⟨rfl,rfl⟩;rw [HMX.out])
    |(go_simp;go_at_call 122;(with_reducible refine (Jk g q _ Ce hq1 zO).mono ?_);rintro e w5 ⟨k5,a5,b5,c5,rfl,_,hc5,g5⟩;have g5:=kC g5;have E5:=cl g5 HE.out (show ge ≠ g by omega);have R5:=cl g5 HR.out (show w.heap.size ≠ g by omega);have O5:=kv g5 HC.out HO.out zD;have s5:=g5.size;have ⟨p0,p1,p2,p3⟩:=E5.two;have e5:=E5.lt;have OA:=O5.alloc (.cells #[k5,a5,b5,c5] 39);have CA:=a9 hc5 (.cells #[k5,a5,b5,c5] 39);have GA:=bJ (a7 HG.out g5) (.cells #[k5,a5,b5,c5] 39))
    |(refine bv zF (.tmp 23) (.tmp 29) 24 zF Tryz.underlying24 ak hz4 zD zA OA zA (Rd.lit w5 39 #[k5,a5,b5,c5] 1 4 rfl) zV zO zD zS ?_;intro A7 c7 w7 o7 g7;have E7:=az OA g7 (E5.alloc _) zD;have R7:=az OA g7 (R5.alloc _) zD;have C7:=CA.row g7 (fun q hq=>Cf);have G7:=rW GA g7 (fun q hq=>(OA.lt q hq).1);have ⟨t0,t1,t2,t3⟩:=E7.two;have e7:=E7.lt;have ⟨r0,r1,r2,r3⟩:=R7.two)
    |fail)
   all_goals go_wp2_with fail
   all_goals refine bodyPost_ret (v:=.agg #[q,.slice A7 (n+1) c7]) sY rfl ⟨q,A7,n+1,c7,gs++[⟨k5,a5,b5,c5⟩],rfl,by simp [HL.out],zO,Ol HHB.out,i5 (by rw [av];exact eW o7 (am o7 E7 zD) _) (am o7 R7 zD),tY (C7.setCell (by show g < ge;omega) _) hg,RV (eS G7 Ch _) zR⟩
  ·by_cases z2:z=2
   ·subst z2;go_wp2_with fail;refine (rX g 6 _ HC zO).mono ?_;rintro e w5 ⟨bb,rfl,hc,gg⟩;have O5:=zH (kv gg HC HO zD);have C5:=zH hc;have R5:=zH (cl gg HR.out (show w.heap.size ≠ g by omega));have E5:=zH (cl gg HE.out (show ge ≠ g by omega));have G5:=zH (a7 HG gg);clear hc gg HO HC HR HE HG;cases bb
    ·obtain ⟨r0,r1,_,_⟩:=R5.two;obtain ⟨u0,u1,v0,v1⟩:=E5.two;go_wp2_with fail;refine bodyPost_ret (v:=.agg #[q,.slice A n c]) sY rfl ⟨q,A,n,c,gs,rfl,HL.out,zO,Nat.le_succ_of_le HHB.out,i5 O5.out (am O5.out R5.out zD),tY C5.out hg,RV G5.out zR⟩
    ·go_wp2_with fail;go_loopg [38] 100 (fun r s wr=>∃ (k:Nat) (A:Option Addr) (c:Nat) (gs:List Gt),k+r=n+100/\k<=62/\gs.length=k/\tq gs<=most+1/\Bx wr w 45 #[(0:Int),.slice none 0 0]/\Bx wr ge 45 #[q,.slice A k c]/\wr.ownsRow w 39 4 (.slice A k c) k (af gs)/\Cur wr g/\w.grownBy wr (some g))
     case atStart=>exact ⟨n,A,c,gs,zO,zO,HL.out,Nat.le_succ_of_le HHB.out,R5.out,E5.out,O5.out,C5.out,G5.out⟩
     case round =>
      clear R5 E5 O5 C5 G5;obtain ⟨k,A,c,gs,hk,hk62,hl,hhb,hr,he,ho,hc,hgr⟩:=hrel;have HL:=zH hl;have HHC:=zH hhb;clear hhb;have HR:=zH hr;have HE:=zH he;have HO:=zH ho;have HC:=zH hc;have HG:=zH hgr;have lr:=hr.lt;have le:=he.lt;clear hl hr he ho hc hgr;obtain ⟨q0,q1,f0,f1⟩:=HE.two;have CD:=zH (show Cur wr.drew g from HC.out);go_wp2_with fail
      go_region_law (first
       |(go_simp;go_at_call 74;(with_reducible refine (dz g 3 _ Ce zO).mono ?_);rintro e w5 ⟨y5,rfl,⟨hy5,_⟩,hc5,g5⟩;have g5:=kC g5;have E5:=cl g5 HE.out (show ge ≠ g by omega);have R5:=cl g5 HR.out (show w.heap.size ≠ g by omega);have O5:=kv g5 HC.out HO.out zD;have s5:=g5.size;have ⟨p0,p1,p2,p3⟩:=E5.two;have e5:=E5.lt;have ⟨hy50,hy51⟩:=hy5 zO;clear hy5;have hw5:IntKind.i64.wrap (59+y5)=59+y5:=(by rw [IntKind.wrap_i64];omega))
       |fail)
      all_goals clear hw5
      all_goals by_cases ht:(k:Int) < 59+y5
      all_goals first
       |(have hd:decide ((k:Int) < 59+y5)=true:=by simpa using ht
         have hk61:k<=60:=zO;have OA:=zH (O5.alloc (.cells #[(1:Int),(0:Int),(0:Int),(0:Int)] 39));have CA:=zH (a9 hc5 (.cells #[(1:Int),(0:Int),(0:Int),(0:Int)] 39));have GA:=zH (bJ (a7 HG g5) (.cells #[(1:Int),(0:Int),(0:Int),(0:Int)] 39))
         go_wp2_with (at_builtin;refine ah rfl (.tmp 44) (.tmp 46) 24 rfl Tryz.underlying24 ak hz4 zD rfl OA.out rfl (Rd.lit w5 39 #[(1:Int),(0:Int),(0:Int),(0:Int)] 1 4 rfl) zV zO zD zS ?_;intro A7 c7 w7 o7 g7;have E7:=az OA.out g7 (E5.alloc _) zD;have R7:=az OA.out g7 (R5.alloc _) zD;have C7:=CA.row g7 (fun q hq=>Cf);have G7:=rW GA.out g7 (fun q hq=>(OA.lt q hq).1);have ⟨t0,t1,t2,t3⟩:=E7.two;have e7:=E7.lt)
         go_roundg (gk - 1)
         case measure=>omega
         case rel=>exact ⟨k+1,A7,c7,gs++[⟨1,0,0,0⟩],zO,zO,by simp [HL.out],by rw [Cg];exact HHC.out,R7.far (show w.heap.size ≠ ge by omega) _,E7.t1 _,by rw [av];exact eW o7 (am o7 E7 zD) _,C7.setCell (by show g < ge;omega) _,eS G7 Ch _⟩)
       |(have ht':¬ ((k:Int) < 59+y5):=ht
         have hd:decide ((k:Int) < 59+y5)=false:=by simpa using ht
         have ⟨r0,r1,r2,r3⟩:=R5.two;have l5:=R5.lt;have CC:=zH hc5;have GG:=zH (a7 HG g5);have OO:=zH O5;have NE:=zH (am O5 R5 zD);go_wp2_with fail;refine bodyPost_ret (v:=.agg #[q,.slice A k c]) sY rfl ⟨q,A,k,c,gs,rfl,HL.out,zO,HHC.out,i5 OO.out NE.out,tY CC.out hg,RV GG.out zR⟩)
   ·have e0:(z == 0)=false:=by simpa using z0
    have e1:(z == 1)=false:=by simpa using z1
    have e2:(z == 2)=false:=by simpa using z2
    clear z0 z1 z2;obtain ⟨r0,r1,_,_⟩:=HR.two;obtain ⟨u0,u1,v0,v1⟩:=HE.two;go_wp2_with fail;refine bodyPost_ret (v:=.agg #[q,.slice A n c]) sY rfl ⟨q,A,n,c,gs,rfl,HL.out,zO,Nat.le_succ_of_le HHB.out,i5 HO.out (am HO.out HR.out zD),tY HC.out hg,RV HG.out zR⟩
def Qj (most:Nat) (w:World) (e:Ending) (w':World):Prop:=∃ (A:Option Addr) (n c:Nat) (gs:List Gt) (N:Int),e=.returned (.tuple #[.slice A n c,N])/\gs.length=n/\n<=64/\tq gs<=most+1/\w'.ownsRow w 39 4 (.slice A n c) n (af gs)/\Below w w w'
theorem Cj (A:Option Addr) (n cap most:Nat) (zs:List Int) (w:World) (h:RdB w A n zs) (hz:∀ z ∈ zs,0<=z/\z<=255) (hn:n<=1048576) (hm:most<=58) :
  Calls Tryz.prog 40 #[.slice A n cap,most] w (Qj most w):=by
 have H:=zH h;have HZ:=zH hz;clear h hz;go_enter Tryz.func40,Tryz.ntmps40;go_wp2_with fail;refine (Mh _ _ _ _ _ H HZ hn).mono ?_;rintro e w1 ⟨g,rfl,hc1,hg,b1⟩;have B1:=zH b1;clear b1;go_wp2_with fail;refine (rX g 3 _ hc1 zO).mono ?_;rintro e w2 ⟨bb,rfl,hc2,g2⟩;cases bb
 ·go_wp2_with fail;refine (Ci g most _ hc2 hm).mono ?_;rintro e w3 ⟨N,A2,n2,c2,gs,rfl,hl,h5,h6,o3,hc3,g3⟩;have hs1:=B1.size;have hs2:=g2.size;have OO:=zH ((ae o3 (show w.heap.size<=w2.heap.size by omega)).alloc (.cells #[N,.slice A2 n2 c2] 45));have BB:=zH (B1.trans (iQ (a7 g2 g3) hs1 (fun k hk=>(by injection hk with hk;omega))));have B3:=zH (BB.alloc BB.size (.cells #[N,.slice A2 n2 c2] 45));have HL:=zH hl;have H6:=zH h6;clear h6;clear hc3 g3 o3 hl g2 hc2 hc1;go_wp2_with fail;go_quiet (fail)
  go_wp2_with fail;go_ret2;exact ⟨A2,n2,c2,gs,N,rfl,HL,zO,H6,OO,bW B3 _⟩
 ·go_wp2_with fail;refine (dz g 3 _ hc2 zO).mono ?_;rintro e w3 ⟨y,rfl,⟨hy,_⟩,hc3,g3⟩;obtain ⟨hy0,hy1⟩:=hy zO;obtain ⟨q,hq⟩:∃ q:Nat,1+y=q:=⟨(1+y).toNat,zO⟩;have hq1:1<=q:=zO;have hq4:q<=3:=zO;clear hy;go_wp2_with fail;clear hq hy0 hy1;refine (FN g q most _ hc3 hq1 zO zO).mono ?_;rintro e w4 ⟨N,A2,n2,c2,gs,rfl,hl,h5,rfl,o4,hc4,g4⟩;have hs1:=B1.size;have hs2:=(a7 g2 g3).size;have OO:=zH ((ae o4 (show w.heap.size<=w3.heap.size by omega)).alloc (.cells #[q,.slice A2 n2 c2] 45));have BB:=zH (B1.trans (iQ (a7 (a7 g2 g3) g4) hs1 (fun k hk=>(by injection hk with hk;omega))));have B3:=zH (BB.alloc BB.size (.cells #[q,.slice A2 n2 c2] 45));have HL:=zH hl;have H6:=zH (show tq gs<=most+1 from Nat.le_trans (wM gs) zO);clear hc4 g4 o4 hl g2 g3 hc3 hc2 hc1;go_wp2_with fail;go_quiet (fail)
  go_wp2_with fail;go_ret2;exact ⟨A2,n2,c2,gs,(q:Int),rfl,HL,zO,H6,OO,bW B3 _⟩
theorem Ck (A:Option Addr) (n cap:Nat) (zs:List Int) (w:World) (h:RdB w A n zs) (hz:∀ z ∈ zs,0<=z/\z<=255) (hn:n<=1048576) :
  Calls Tryz.prog 24 #[.slice A n cap] w (Qj 10 w):=by
 have H:=zH h;have HZ:=zH hz;clear h hz;go_enter Tryz.func24,Tryz.ntmps24;go_wp2_with fail;refine (Cj A n cap 10 zs _ H HZ hn zO).mono ?_;rintro e w1 ⟨A2,n2,c2,gs,N,rfl,hl,h5,h6,o1,b1⟩;have OO:=zH o1;have BB:=zH b1;have HL:=zH hl;have H6:=zH h6;clear o1 b1 hl h6;go_wp2_with fail;go_ret2;exact ⟨A2,n2,c2,gs,N,rfl,HL,h5,H6,OO,BB⟩
theorem Km {p:Prop} (h:p:=by
  rintro e wq ⟨rfl,bq⟩;have HP:=zH (HP.below bq);obtain ⟨p0,p1,p2,p3,_⟩:=HP.four;have HS:=zH (HS.below bq);clear bq;go_wp2_with fail;refine (p9 n k a _ hz16 zO).mono ?_;rintro e wq ⟨rfl,bq⟩;have HP:=zH (HP.below bq);obtain ⟨p0,p1,p2,p3,_⟩:=HP.four;have HS:=zH (HS.below bq);clear bq;go_wp2_with fail;go_roundg (gk - 1)
  all_goals first
   |omega
   |exact ⟨k+1,_,zO,by go_num,zO,by have:=NX.out;rwa [show f1 n q k s=s by unfold f1;(try rw [EX.out]);(try rw [EZ.out]);(try rw [hx]);(try rw [hz]);rfl] at this,HS.mono zO⟩):p:=h
theorem On (R W n B0 q:Nat) (S0:df) (w0 w:World) (hn:1<=n/\n<=4) (hq:q < n) (h:SI R W 159 n B0 S0 w0 w) (hB:B0<=500) :
  Calls Tryz.prog 152 #[.pointer (some ⟨W,0,none⟩),q] w fun e w'=>e=.returned (.tuple #[])/\SI R W 159 n (B0+9) (fm n q S0) w0 w':=by
 obtain ⟨S1,eS1⟩:∃ S,cm (f1 n q) q (n - q) S0=S:=⟨_,rfl⟩;obtain ⟨F,eF⟩:∃ F,kZ S1.1 q q (n - 1 - q)=F:=⟨_,rfl⟩;have hF1:q<=F/\F<=n - 1:=by have:=qQ S1.1 q (n - 1 - q) q;omega
 obtain ⟨S2,eS2⟩:∃ S,Ma n q S1=S:=⟨_,rfl⟩;have HE2:=zH (show (if F=q then S1 else iK n S1 11 q F)=S2 by rw [<- eS2,<- eF];rfl);obtain ⟨S3,eS3⟩:∃ S,cm (f2 n q) (q+1) (n - (q+1)) S2=S:=⟨_,rfl⟩;have HE3:=zH (show fm n q S0=S3 by rw [<- eS3,<- eS2,<- eS1];rfl);have HF:=zH eF;clear eF;have HS1:=zH eS1;clear eS1;have HS3:=zH eS3;clear eS3;clear eS2;have n1:(1:Int)<=(n:Int):=zO;have n4:(n:Int)<=4:=zO;have q0:(0:Int)<=(q:Int):=zO;have qn:(q:Int) < (n:Int):=zO;have HS:=zH h;clear h;obtain ⟨A0,c0,A1,c1,hW⟩:=HS.out.2.2.1;obtain ⟨t0,t1,t2,_⟩:=hW.1.three;clear hW;go_enter Tryz.func152,Tryz.ntmps152;go_upto_block 0 with fail
 go_cut [5] from 14 to 45 (fun i wx=>SI R W 159 n (B0+1 * n) S1 w0 wx)
 case first =>
  go_wp2_with fail;go_loopg [5] (n - (q)) (fun m i wr=>∃ (k:Nat) (s:df),k+m=n/\i=.int .i64 k/\q<=k/\cm (f1 n q) k m s=S1/\SI R W 159 n (B0+1 * k) s w0 wr)
  case atStart=>exact ⟨q,_,zO,by go_num,zO,HS1.out,HS.mono zO⟩
  case round =>
   clear HS HS1;obtain ⟨k,s,hk,rfl,hqk,hfin,hS⟩:=hrel;have HS:=zH hS;clear hS;by_cases hlt:k < n
   ·have NX:=zH (eX hlt hk hfin);clear hfin;obtain ⟨a,ha,hoa,A0,c0,A1,c1,hW⟩:=HS.row (i:=q) zO;have HW:=zH hW;have HA:=zH ha;have hx16:=(bI hn.2 hoa).1;have hz16:=(bI hn.2 hoa).2.1;obtain ⟨b,off,rfl⟩:=hW.rd.first zO;obtain ⟨hbl,y0,y1,y2,y3⟩:=hW.rd.cellsAt (aE ha);simp only [pg] at y0 y1 y2 y3;obtain ⟨t0,t1,t2,_⟩:=hW.1.three;have HB:=HA;have hi1:(q:Int) < ((2 * n:Nat):Int):=zO;clear hW ha;have EX:=zH (kU (k:=k) HB);have EZ:=zH (qd (k:=k) HB);cases hx:aZ a.x k
    ·skip;cases hz:aZ a.z k
     ·skip;go_wp2_with fail;have HP:=zH (Bx.new wr 151 #[n,a.x,a.z,a.p]);have HS:=zH (HS.alloc (.cells #[n,a.x,a.z,a.p] 151));clear y0 y1 y2 y3 t0 t1 t2 hbl;refine (jB n k a _ hx16 zO).mono ?_;exact Km
     ·skip;go_wp2_with fail;have HP:=zH (Bx.new wr 151 #[n,a.x,a.z,a.p]);have HS:=zH (HS.alloc (.cells #[n,a.x,a.z,a.p] 151));clear y0 y1 y2 y3 t0 t1 t2 hbl;refine (jB n k a _ hx16 zO).mono ?_;rintro e wq ⟨rfl,bq⟩;have HP:=zH (HP.below bq);obtain ⟨p0,p1,p2,p3,_⟩:=HP.four;have HS:=zH (HS.below bq);clear bq;go_wp2_with fail;refine (p9 n k a _ hz16 zO).mono ?_;rintro e wq ⟨rfl,bq⟩;have HP:=zH (HP.below bq);obtain ⟨p0,p1,p2,p3,_⟩:=HP.four;have HS:=zH (HS.below bq);clear bq;go_wp2_with fail;refine (eG 4 k _).mono ?_;rintro e wq ⟨rfl,bq⟩;have HS:=zH (HS.below bq);clear bq;go_wp2_with fail;refine (kh R W n (B0+1 * k) _ 4 k 0 _ w0 _ hn HS.out rfl (aP hn zO (show (4:Int) ∈ oneKs by decide)).1 (aP (q:=k) hn zO (show (4:Int) ∈ oneKs by decide)).2 zO).mono ?_;rintro e wq ⟨rfl,hq0⟩;have HS:=zH hq0;clear hq0;go_wp2_with fail;go_roundg (gk - 1)
      all_goals first
       |omega
       |exact ⟨k+1,_,zO,by go_num,zO,by have:=NX.out;rwa [show f1 n q k s=iK n s 4 k 0 by unfold f1;(try rw [EX.out]);(try rw [EZ.out]);(try rw [hx]);(try rw [hz]);rfl] at this,HS.mono zO⟩
    ·skip;cases hz:aZ a.z k
     ·skip;go_wp2_with fail;have HP:=zH (Bx.new wr 151 #[n,a.x,a.z,a.p]);have HS:=zH (HS.alloc (.cells #[n,a.x,a.z,a.p] 151));clear y0 y1 y2 y3 t0 t1 t2 hbl;refine (jB n k a _ hx16 zO).mono ?_;rintro e wq ⟨rfl,bq⟩;have HP:=zH (HP.below bq);obtain ⟨p0,p1,p2,p3,_⟩:=HP.four;have HS:=zH (HS.below bq);clear bq;go_wp2_with fail;refine (p9 n k a _ hz16 zO).mono ?_;exact Km
     ·skip;go_wp2_with fail;have HP:=zH (Bx.new wr 151 #[n,a.x,a.z,a.p]);have HS:=zH (HS.alloc (.cells #[n,a.x,a.z,a.p] 151));clear y0 y1 y2 y3 t0 t1 t2 hbl;refine (jB n k a _ hx16 zO).mono ?_;rintro e wq ⟨rfl,bq⟩;have HP:=zH (HP.below bq);obtain ⟨p0,p1,p2,p3,_⟩:=HP.four;have HS:=zH (HS.below bq);clear bq;go_wp2_with fail;refine (p9 n k a _ hz16 zO).mono ?_;rintro e wq ⟨rfl,bq⟩;have HP:=zH (HP.below bq);obtain ⟨p0,p1,p2,p3,_⟩:=HP.four;have HS:=zH (HS.below bq);clear bq;go_wp2_with fail;refine (eG 5 k _).mono ?_;rintro e wq ⟨rfl,bq⟩;have HS:=zH (HS.below bq);clear bq;go_wp2_with fail;refine (kh R W n (B0+1 * k) _ 5 k 0 _ w0 _ hn HS.out rfl (aP hn zO (show (5:Int) ∈ oneKs by decide)).1 (aP (q:=k) hn zO (show (5:Int) ∈ oneKs by decide)).2 zO).mono ?_;rintro e wq ⟨rfl,hq0⟩;have HS:=zH hq0;clear hq0;go_wp2_with fail;go_roundg (gk - 1)
      all_goals first
       |omega
       |exact ⟨k+1,_,zO,by go_num,zO,by have:=NX.out;rwa [show f1 n q k s=iK n s 5 k 0 by unfold f1;(try rw [EX.out]);(try rw [EZ.out]);(try rw [hx]);(try rw [hz]);rfl] at this,HS.mono zO⟩
   ·obtain rfl:n=k:=zO;obtain rfl:gk=0:=zO;obtain rfl:s=S1:=hfin;go_wp2_with fail;go_meet;exact HS.out
 case rest =>
  have HS:=zH hcut;clear hcut;obtain ⟨wn,rfl⟩:∃ wn,wn=wc:=⟨_,rfl⟩;go_upto_block 2 with fail
  go_cut [7] from 47 to 65 (fun i wx=>i=.int .i64 (F:Nat)/\SI R W 159 n (B0+1 * n) S1 w0 wx)
  case first =>
   go_wp2_with fail;go_loopg [7] (n+1 - q) (fun m i wr=>∃ (k:Nat),k+m=n+1/\i=.int .i64 k/\q<=k/\k<=n - 1/\kZ S1.1 q k (n - 1 - k)=F/\SI R W 159 n (B0+1 * n) S1 w0 wr)
   case atStart=>exact ⟨q,zO,rfl,zO,zO,HF.out,HS.out⟩
   case round =>
    clear HS HF;obtain ⟨k,hk,rfl,hqk,hkn,hfin,hS⟩:=hrel;have HS:=zH hS;clear hS;by_cases hlt:k < n - 1
    ·have HFK:=zH (uw zO hfin);clear hfin;have hltI:(k:Int) < (n:Int) - 1:=zO;have hltd:decide ((k:Int) < (n:Int) - 1)=true:=by simpa using hltI
     obtain ⟨a,ha,hoa,A0,c0,A1,c1,hW⟩:=HS.row (i:=q) zO;have HW:=zH hW;have HA:=zH ha;have hx16:=(bI hn.2 hoa).1;have hz16:=(bI hn.2 hoa).2.1;obtain ⟨b,off,rfl⟩:=hW.rd.first zO;obtain ⟨hbl,y0,y1,y2,y3⟩:=hW.rd.cellsAt (aE ha);simp only [pg] at y0 y1 y2 y3;obtain ⟨t0,t1,t2,_⟩:=hW.1.three;have HB:=HA;have hi1:(q:Int) < ((2 * n:Nat):Int):=zO;clear hW ha;have EX:=zH (kU (k:=k) HA);cases hx:aZ a.x k
     ·skip;have HK:=zH (show kZ S1.1 q (k+1) (n - 1 - (k+1))=F by have:=HFK.out;rwa [EX.out,hx,if_neg zD] at this);go_wp2_with fail;refine (jB n k a _ hx16 zO).mono ?_;rintro e wq ⟨rfl,bq⟩;have HS:=zH (HS.below bq);clear bq;go_wp2_with fail;go_roundg (gk - 1)
      all_goals first
       |omega
       |exact ⟨k+1,zO,by go_num,zO,zO,HK.out,HS.out⟩
     ·skip;have HK:=zH (show k=F by have:=HFK.out;rwa [EX.out,hx,if_pos rfl] at this);go_wp2_with fail;refine (jB n k a _ hx16 zO).mono ?_;rintro e wq ⟨rfl,bq⟩;have HS:=zH (HS.below bq);clear bq;go_wp2_with fail;go_meet;exact ⟨by rw [HK.out],HS.out⟩
    ·have HK:=zH (show k=F by rw [show n - 1 - k=0 by omega] at hfin;exact hfin);clear hfin;have hltI:¬ ((k:Int) < (n:Int) - 1):=zO;have hltd:decide ((k:Int) < (n:Int) - 1)=false:=by simpa using hltI
     go_wp2_with fail;go_meet;exact ⟨by rw [HK.out],HS.out⟩
  case rest =>
   obtain ⟨rfl,hS⟩:=hcut;have HS:=zH hS;clear hS;obtain ⟨wn,rfl⟩:∃ wn,wn=wc:=⟨_,rfl⟩;go_upto_if 68 with fail
   go_cut [69] from 68 to 73 (fun i wx=>SI R W 159 n (B0+1 * n+1) S2 w0 wx)
   case first =>
    by_cases hF:F=q
    ·subst hF;have HE:=zH (show S1=S2 by have:=HE2.out;rwa [if_pos rfl] at this);go_wp2_with fail;go_meet;exact HE.out ▸ HS.mono zO
    ·have HE:=zH (show iK n S1 11 q F=S2 by have:=HE2.out;rwa [if_neg hF] at this);have hFI:¬ ((F:Int)=(q:Int)):=zO;have hFd:((F:Int) != (q:Int))=true:=by simpa using hFI
     go_wp2_with fail;refine (kh R W n (B0+1 * n) _ 11 q F _ w0 _ hn HS.out rfl (iC hn (show q < n by omega) (show F < n by omega) zO).2 zD zO).mono ?_;rintro e wq ⟨rfl,hq0⟩;have HS:=zH hq0;clear hq0;go_wp2_with fail;go_meet;exact HE.out ▸ HS.out
   case rest =>
    have HS:=zH hcut;clear hcut;obtain ⟨wn,rfl⟩:∃ wn,wn=wc:=⟨_,rfl⟩;go_upto_block 4 with fail
    go_wp2_with fail;go_loopg [7] (n - (q+1)) (fun m i wr=>∃ (k:Nat) (s:df),k+m=n/\i=.int .i64 k/\q+1<=k/\cm (f2 n q) k m s=S3/\SI R W 159 n (B0+1 * n+1+1 * k) s w0 wr)
    case atStart=>exact ⟨q+1,_,zO,by go_num,zO,HS3.out,HS.mono zO⟩
    case round =>
     clear HS HS3;obtain ⟨k,s,hk,rfl,hqk,hfin,hS⟩:=hrel;have HS:=zH hS;clear hS;by_cases hlt:k < n
     ·have NX:=zH (eX hlt hk hfin);clear hfin;obtain ⟨a,ha,hoa,A0,c0,A1,c1,hW⟩:=HS.row (i:=q) zO;have HW:=zH hW;have HA:=zH ha;have hx16:=(bI hn.2 hoa).1;have hz16:=(bI hn.2 hoa).2.1;obtain ⟨b,off,rfl⟩:=hW.rd.first zO;obtain ⟨hbl,y0,y1,y2,y3⟩:=hW.rd.cellsAt (aE ha);simp only [pg] at y0 y1 y2 y3;obtain ⟨t0,t1,t2,_⟩:=hW.1.three;have HB:=HA;have hi1:(q:Int) < ((2 * n:Nat):Int):=zO;clear hW ha;have EX:=zH (kU (k:=k) HB);have EZ:=zH (qd (k:=k) HB);cases hx:aZ a.x k
      ·skip;go_wp2_with fail;refine (jB n k a _ hx16 zO).mono ?_;rintro e wq ⟨rfl,bq⟩;have HS:=zH (HS.below bq);clear bq;go_wp2_with fail;go_roundg (gk - 1)
       all_goals first
        |omega
        |exact ⟨k+1,_,zO,by go_num,zO,by have:=NX.out;rwa [show f2 n q k s=s by unfold f2;(try rw [EX.out]);(try rw [EZ.out]);(try rw [hx]);(try rw [hz]);rfl] at this,HS.mono zO⟩
      ·skip;go_wp2_with fail;refine (jB n k a _ hx16 zO).mono ?_;rintro e wq ⟨rfl,bq⟩;have HS:=zH (HS.below bq);clear bq;go_wp2_with fail;refine (Uj q k _).mono ?_;rintro e wq ⟨rfl,bq⟩;have HS:=zH (HS.below bq);clear bq;go_wp2_with fail;refine (kh R W n (B0+1 * n+1+1 * k) _ 9 q k _ w0 _ hn HS.out rfl (iC hn (show q < n by omega) (show k < n by omega) zO).1 zD zO).mono ?_;rintro e wq ⟨rfl,hq0⟩;have HS:=zH hq0;clear hq0;go_wp2_with fail;go_roundg (gk - 1)
       all_goals first
        |omega
        |exact ⟨k+1,_,zO,by go_num,zO,by have:=NX.out;rwa [show f2 n q k s=iK n s 9 q k by unfold f2;(try rw [EX.out]);(try rw [EZ.out]);(try rw [hx]);(try rw [hz]);rfl] at this,HS.mono zO⟩
     ·obtain rfl:n=k:=zO;obtain rfl:gk=0:=zO;obtain rfl:s=S3:=hfin;go_wp2_with fail
      (first | go_ret | go_end0)
      exact ⟨rfl,by rw [HE3.out];exact HS.mono zO⟩
def tN (N:Nat) (P:Pq) (V:List Zw):List Zw:=(List.range N).map fun i=>ai (V.getD (i ^^^ P.x) Zw.zero) (fw (2 * P.p+4 * dt ((i ^^^ P.x) &&& P.z)))
theorem cA (N:Nat) (P:Pq) (V:List Zw):(tN N P V).length=N:=by unfold tN;rw [List.length_map,List.length_range]
theorem fy {N:Nat} (P:Pq) (V:List Zw) {i:Nat} (hi:i < N):(tN N P V).getD i Zw.zero=ai (V.getD (i ^^^ P.x) Zw.zero) (fw (2 * P.p+4 * dt ((i ^^^ P.x) &&& P.z))):=by
 unfold tN;rw [List.getD_eq_getElem?_getD,List.getElem?_map,List.getElem?_range hi];rfl
theorem oF (N:Nat) (P:Pq):LinN N (tN N P):=by
 refine ⟨fun V W h1 h2=>?_,fun c V h1=>?_,fun V _=>cA N P V⟩
 ·refine bT (by rw [cA,aH (cA ..) (cA ..)]) fun s hs=>?_
  rw [cA] at hs;rw [aS (by rw [cA,cA]),fy _ _ hs,fy _ _ hs,fy _ _ hs,aS (h1.trans h2.symm),iG]
 ·refine bT (by rw [cA,aK,cA]) fun s hs=>?_
  rw [cA] at hs;rw [bj,fy _ _ hs,fy _ _ hs,bj,pQ]
theorem DX {n:Nat} (hn:1<=n/\n<=4) {A B:Pq} (ha:A.x < 2 ^ n/\A.z < 2 ^ n) (hb:B.x < 2 ^ n/\B.z < 2 ^ n) (V:List Zw):tN (2 ^ n) (cn A B) V=tN (2 ^ n) A (tN (2 ^ n) B V):=by
 refine bT (by rw [cA,cA]) fun i hi=>?_
 rw [cA] at hi;have h16:2 ^ n<=16:=Nat.pow_le_pow_right (n:=2) zO hn.2;have hi2:i ^^^ A.x < 2 ^ n:=Nat.xor_lt_two_pow hi ha.1;have hi3:i ^^^ A.x ^^^ B.x < 2 ^ n:=Nat.xor_lt_two_pow hi2 hb.1;rw [fy _ _ hi,fy _ _ hi,fy _ _ hi2,yf];show ai (V.getD (i ^^^ (A.x ^^^ B.x)) Zw.zero) (fw (2 * ((A.p+B.p+2 * dt (A.z &&& B.x)) % 4)+4 * dt ((i ^^^ (A.x ^^^ B.x)) &&& (A.z ^^^ B.z))))=_;rw [<- Nat.xor_assoc];congr 1;refine ou ?_;have e1:=qJ (a:=i ^^^ A.x ^^^ B.x) (b:=A.z) (c:=B.z) zO zO zO;have e2:=qJ (a:=A.z) (b:=i ^^^ A.x) (c:=B.x) zO zO zO;rw [Nat.and_comm A.z (_ ^^^ _),Nat.and_comm A.z (i ^^^ A.x)] at e2;omega
theorem Qk {N:Nat} (p:Nat) {V:List Zw} (hV:V.length=N):tN N ⟨0,0,p⟩ V=cB (fw (2 * p)) V:=by
 refine bT (by rw [cA,aK,hV]) fun i hi=>?_
 rw [cA] at hi;rw [fy _ _ hi,bj];simp [dt]
theorem sZ {N n i j x:Nat} (h:N=2 ^ n) (hj:j < N) (hx:x < N):i ^^^ x=j ↔ i=j ^^^ x:=by
 constructor
 ·rintro rfl;rw [Nat.xor_assoc,Nat.xor_self,Nat.xor_zero]
 ·rintro rfl;rw [Nat.xor_assoc,Nat.xor_self,Nat.xor_zero]
theorem wN {n:Nat} {P:Pq} (hx:P.x < 2 ^ n) {j:Nat} (hj:j < 2 ^ n):tN (2 ^ n) P (eN (2 ^ n) j)=cB (fw (2 * P.p+4 * dt (j &&& P.z))) (eN (2 ^ n) (j ^^^ P.x)):=by
 refine bT (by rw [cA,aK,be]) fun i hi=>?_
 rw [cA] at hi;rw [fy _ _ hi,bj,ko hj,ko (Nat.xor_lt_two_pow hj hx)];by_cases h:i ^^^ P.x=j
 ·rw [if_pos h,if_pos ((sZ rfl hj hx).1 h),h]
 ·rw [if_neg h,if_neg (fun e=>h ((sZ rfl hj hx).2 e)),a8,a8]
def Ug (X Z:Nat->Pq) (a:Pq):List Nat->Pq->Pq
 |[],o=>o
 |q :: r,o =>
  let o1:=if aZ a.x q=true then cn o (X q) else o
  Ug X Z a r (if aZ a.z q=true then cn o1 (Z q) else o1)
theorem zm (g:Gt) (a:Pq):∀ (l:List Nat) (o:Pq),fT g a l o=Ug (oO g) (oW g) a l o
 |[],o=>rfl
 |q :: r,o=>zm g a r _
def lX (N:Nat):List (Nat × Zw)->List Zw
 |[]=>List.replicate N Zw.zero
 |t :: r=>bl (cB t.2 (eN N t.1)) (lX N r)
theorem kI {p:Prop} (h:p:=by rw [aK,be]):p:=h
theorem fA (N:Nat):∀ l,(lX N l).length=N
 |[]=>List.length_replicate
 |t :: r=>aH kI (fA N r)
theorem FO {N:Nat} {a b c:List Zw} (ha:a.length=N) (hb:b.length=N) (hc:c.length=N):bl a (bl b c)=bl b (bl a c):=by
 refine bT (by rw [aH ha (aH hb hc),aH hb (aH ha hc)]) fun s _=>?_
 rw [aS (by rw [ha,aH hb hc]),aS (by rw [hb,hc]),aS (by rw [hb,aH ha hc]),aS (by rw [ha,hc])]
 apply du<;>simp only [bV]<;>omega
theorem ta {N:Nat} {l m:List (Nat × Zw)} (h:l.Perm m):lX N l=lX N m:=by
 induction h with
 |nil=>rfl
 |cons x _ ih=>rw [lX,lX,ih]
 |swap x y l=>exact FO kI kI (fA N l)
 |trans _ _ h1 h2=>exact h1.trans h2
theorem ki {N:Nat} {V:List Zw} (h:V.length=N):bl (List.replicate N Zw.zero) V=V:=by
 refine bT (by rw [aH List.length_replicate h,h]) fun s _=>?_
 rw [aS (by rw [List.length_replicate,h]),eQ,gJ]
theorem nq {N:Nat} {a b c:List Zw} (ha:a.length=N) (hb:b.length=N) (hc:c.length=N):bl (bl a b) c=bl a (bl b c):=by
 refine bT (by rw [aH ha (aH hb hc),aH (aH ha hb) hc]) fun s _=>?_
 rw [aS (by rw [hc,aH ha hb]),aS (by rw [ha,hb]),aS (by rw [ha,aH hb hc]),aS (by rw [hb,hc]),sT]
theorem zn {N e:Nat}:∀ (l:List (Nat × Dw)) (O:List Zw),tS N e l->O.length=N->dD ⟨1,0,0,0⟩ l O=bl O (lX N (l.map fun t=>(t.1,t.2.n)))
 |[],O,_,hO=>by
  show O=bl O (List.replicate N Zw.zero);rw [show bl O (List.replicate N Zw.zero)=bl (List.replicate N Zw.zero) O by unfold bl;exact List.zipWith_comm_of_comm (fun x y=>by apply du<;>simp only [bV]<;>omega),ki hO]
 |t :: r,O,hg,hO=>by
  have h3:=(hg t zI).2.2;have e:iz ⟨1,0,0,0⟩ O t=bl O (cB t.2.n (eN N t.1)):=by
   refine bT (by rw [aH hO kI];unfold iz;rw [List.length_set];exact hO) fun s _=>?_
   unfold iz;rw [iW zO,aS (by rw [aK,be,hO]),bj,ko h3,cZ];by_cases h:s=t.1
   ·rw [if_pos h,if_pos h,cZ,h]
   ·rw [if_neg h,if_neg h,a8,add_zero]
  rw [dD,e,zn r _ (fun x hx=>hg x (by simp [hx])) (aH hO kI)];exact nq hO kI (fA N _)
def gx (g:Gt) (i:Nat):List (Nat × Zw):=(bU g i).map fun t=>(t.1,t.2.n)
theorem kJ {n:Nat} {g:Gt} (hg:bF n g=true) {i:Nat} (hi:i < 2 ^ n):dL g (eN (2 ^ n) i)=lX (2 ^ n) (gx g i):=by
 rw [AN hi,zn _ _ ((rN hg).2 i hi) List.length_replicate,ki (fA _ _)];rfl
theorem DY {n:Nat} {g:Gt} (hg:bF n g=true) {i:Nat} (hi:i < 2 ^ n):∀ t ∈ gx g i,t.1 < 2 ^ n:=by
 intro t ht;obtain ⟨x,hx,rfl⟩:=List.mem_map.1 ht;exact ((rN hg).2 i hi x hx).2.2
theorem mD {N:Nat} {f:List Zw->List Zw} (hf:LinN N f) {F:Nat × Zw->List (Nat × Zw)}:∀ l:List (Nat × Zw),(∀ t ∈ l,cB t.2 (f (eN N t.1))=lX N (F t))->f (lX N l)=lX N (l.flatMap F)
 |[],_=>by
  show f (List.replicate N Zw.zero)=List.replicate N Zw.zero;have:=hf.2.1 Zw.zero (List.replicate N Zw.zero) List.length_replicate;rw [mr] at this;rw [this];refine bT (by rw [aK,hf.2.2 _ List.length_replicate,List.length_replicate]) fun s _=>?_
  rw [bj,eQ]
  apply du<;>simp [ai,Zw.zero]
 |t :: r,h=>by
  rw [lX,hf.1 _ _ kI (fA N r),hf.2.1 _ _ (be _ _),mD hf r (fun x hx=>h x (by simp [hx])),h t zI,List.flatMap_cons];exact (app (F t) _).symm
where
 app:∀ a b:List (Nat × Zw),lX N (a++b)=bl (lX N a) (lX N b)
 |[],b=>(ki (fA N b)).symm
 |t :: r,b=>by
  rw [List.cons_append,lX,app r b];exact (nq kI (fA N r) (fA N b)).symm
theorem oG {N:Nat} (t:Nat × Zw):lX N [t]=cB t.2 (eN N t.1):=by
 rw [lX,lX];unfold bl;rw [List.zipWith_comm_of_comm (fun x y=>by apply du<;>simp only [bV]<;>omega)];exact ki kI
theorem lY (c d:Zw) (V:List Zw):cB c (cB d V)=cB (ai d c) V:=by
 unfold cB;rw [List.map_map];congr 1
 funext z
 exact jz z d c
theorem Cl (N:Nat) (c:Zw):LinN N (cB c):=by
 refine ⟨fun V W h1 h2=>?_,fun d V h1=>?_,fun V h1=>by rw [aK,h1]⟩
 ·refine bT (by rw [aK,aH h1 h2,aH (by rw [aK,h1]) (by rw [aK,h2])]) fun s _=>?_
  rw [bj,aS (h1.trans h2.symm),aS (by rw [aK,aK,h1,h2]),bj,bj,iG]
 ·rw [lY,lY,cN]
def Kn (P:Pq) (i:Nat):Zw:=fw (2 * P.p+4 * dt (i &&& P.z))
def DZ (n:Nat) (g:Gt) (G M:Pq):Bool:=decide (M.x < 2 ^ n) && (decide (M.z < 2 ^ n) && (List.range (2 ^ n)).all fun j =>
 ((gx g (j ^^^ G.x)).map fun t=>(t.1,ai t.2 (Kn G j))).isPerm ((gx g j).map fun t=>(t.1 ^^^ M.x,ai (Kn M t.1) t.2)))
def tb (n:Nat) (g:Gt):Bool:=(List.range n).all fun q=>DZ n g (xQ q) (oO g q) && DZ n g (zQ q) (oW g q)
def zp (n:Nat):Bool:=(List.range 4).all fun p=>(Fl n).all fun a=>decide (Ug xQ zQ ⟨a.1,a.2,p⟩ (List.range n) ⟨0,0,p⟩=⟨a.1,a.2,p⟩)
theorem SQ:zp 1=true:=by decide +kernel
theorem SU:zp 2=true:=by decide +kernel
theorem SV:zp 3=true:=by decide +kernel
theorem SW:zp 4=true:=by decide +kernel
theorem Vl:(Gp 1).all (tb 1)=true:=by decide +kernel
theorem Vm:(Gp 2).all (tb 2)=true:=by decide +kernel
theorem Vn:(Gp 3).all (tb 3)=true:=by decide +kernel
theorem SX:((Gp 4).take 30).all (tb 4)=true:=by decide +kernel
theorem SY:((Gp 4).drop 30).all (tb 4)=true:=by decide +kernel
theorem Ko {n:Nat} (h:1<=n/\n<=4):(Gp n).all (tb n)=true/\zp n=true:=by
 obtain rfl | rfl | rfl | rfl:n=1\/n=2\/n=3\/n=4:=zO
 ·exact ⟨Vl,SQ⟩
 ·exact ⟨Vm,SU⟩
 ·exact ⟨Vn,SV⟩
 ·exact ⟨de SX SY,SW⟩
def Car (n:Nat) (g:Gt) (G M:Pq):Prop:=(G.x < 2 ^ n/\G.z < 2 ^ n)/\(M.x < 2 ^ n/\M.z < 2 ^ n)/\∀ V,V.length=2 ^ n->dL g (tN (2 ^ n) G V)=tN (2 ^ n) M (dL g V)
theorem D9 {n:Nat} {g:Gt} {G M:Pq} (hg:bF n g=true) (hG:G.x < 2 ^ n/\G.z < 2 ^ n) (h:DZ n g G M=true):Car n g G M:=by
 unfold DZ at h;simp only [Bool.and_eq_true,decide_eq_true_eq,List.all_eq_true] at h;obtain ⟨h1,h2,h3⟩:=h;refine ⟨hG,⟨h1,h2⟩,fun V hV=>fX (f:=fun V=>dL g (tN (2 ^ n) G V)) ((oF _ G).comp (aL hg)) ((aL hg).comp (oF _ M)) (fun j hj=>?_) hV⟩;have hx:=Nat.xor_lt_two_pow hj hG.1;have e1:=mD (oF (2 ^ n) M) (F:=fun t=>[(t.1 ^^^ M.x,ai (Kn M t.1) t.2)]) (gx g j) (fun t ht=>by
  rw [wN h1 (DY hg hj t ht),oG,lY];rfl)
 have e2:=mD (Cl (2 ^ n) (Kn G j)) (F:=fun t=>[(t.1,ai t.2 (Kn G j))]) (gx g (j ^^^ G.x)) (fun t ht=>by
  rw [oG,lY,cN])
 rw [<- List.map_eq_flatMap] at e1 e2;rw [wN hG.1 hj,(aL hg).2.1 _ _ (be _ _),kJ hg hx,kJ hg hj,e1];refine Eq.trans e2 (ta ?_);exact List.isPerm_iff.1 (h3 j (List.mem_range.2 hj))
theorem Ea {n:Nat} {A B:Pq} (ha:A.x < 2 ^ n/\A.z < 2 ^ n) (hb:B.x < 2 ^ n/\B.z < 2 ^ n):(cn A B).x < 2 ^ n/\(cn A B).z < 2 ^ n:=⟨Nat.xor_lt_two_pow ha.1 hb.1,Nat.xor_lt_two_pow ha.2 hb.2⟩
theorem Car.mul {n:Nat} {g:Gt} {A B M L:Pq} (hg:bF n g=true) (h:Car n g A M) (k:Car n g B L):Car n g (cn A B) (cn M L):=by
 have hn:=dm hg;refine ⟨Ea h.1 k.1,Ea h.2.1 k.2.1,fun V hV=>?_⟩;rw [DX hn h.1 k.1,h.2.2 _ (cA _ _ _),k.2.2 V hV,DX hn h.2.1 k.2.1]
theorem Kq {n:Nat} {g:Gt} (hg:bF n g=true) {X Z X' Z':Nat->Pq} (a:Pq):∀ (l:List Nat) (o o':Pq),(∀ q ∈ l,Car n g (X q) (X' q)/\Car n g (Z q) (Z' q))->Car n g o o'->Car n g (Ug X Z a l o) (Ug X' Z' a l o')
 |[],o,o',_,h=>h
 |q :: r,o,o',hl,h=>by
  obtain ⟨h1,h2⟩:=hl q zI;have h3:Car n g (if aZ a.x q=true then cn o (X q) else o) (if aZ a.x q=true then cn o' (X' q) else o'):=by
   split
   ·exact h.mul hg h1
   ·exact h
  refine Kq hg a r _ _ (fun x hx=>hl x (by simp [hx])) ?_;split
  ·exact h3.mul hg h2
  ·exact h3
theorem Kr {n:Nat} {g:Gt} {P:Pq} (hg:bF n g=true) (hc:bh g.k=true) (hP:ci n P=true):Car n g P (eP n g P):=by
 have hn:=dm hg;obtain ⟨h1,h2⟩:=Ko hn;obtain ⟨p1,p2,p3⟩:=okQn_iff.1 hP;have hg2:=List.all_eq_true.1 h1 g (List.mem_filter.2 ⟨cS hg,hc⟩);unfold tb at hg2;have e:Ug xQ zQ P (List.range n) ⟨0,0,P.p⟩=P:=of_decide_eq_true (List.all_eq_true.1 (List.all_eq_true.1 h2 P.p (List.mem_range.2 p3)) (P.x,P.z) (j5 ⟨p1,p2⟩));have h0:0 < 2 ^ n:=Nat.pow_pos zO;have:=Kq hg (X:=xQ) (Z:=zQ) (X':=oO g) (Z':=oW g) P (List.range n) ⟨0,0,P.p⟩ ⟨0,0,P.p⟩ (fun q hq=>by
  have hq':=List.mem_range.1 hq;have hp:2 ^ q < 2 ^ n:=Nat.pow_lt_pow_right zO hq';have:=List.all_eq_true.1 hg2 q hq;simp only [Bool.and_eq_true] at this;exact ⟨D9 hg ⟨hp,h0⟩ this.1,D9 hg ⟨h0,hp⟩ this.2⟩) ⟨⟨h0,h0⟩,⟨h0,h0⟩,fun V hV=>by rw [Qk _ hV,Qk _ ((aL hg).2.2 V hV),(aL hg).2.1 _ _ hV]⟩
 rw [e,<- zm] at this;exact this
def gj (n:Nat):List Gt->Pq->Pq
 |[],P=>P
 |g :: l,P=>gj n l (eP n g P)
theorem nr (n:Nat):∀ (l:List Gt) (r:List Pq),bH n l r=r.map (gj n l)
 |[],r=>(List.map_id' r).symm
 |g :: l,r=>by
  rw [bH,nr n l];unfold di;rw [List.map_map];rfl
def SZ (n:Nat) (l:List Gt):Prop:=∀ g ∈ l,bF n g=true/\bh g.k=true
theorem oH {n:Nat}:∀ (l:List Gt) (P:Pq),SZ n l->ci n P=true->ci n (gj n l P)=true/\∀ V,V.length=2 ^ n->aX l (tN (2 ^ n) P V)=tN (2 ^ n) (gj n l P) (aX l V)
 |[],P,_,h=>⟨h,fun _ _=>rfl⟩
 |g :: l,P,hl,h=>by
  obtain ⟨h1,h2⟩:=hl g zI;obtain ⟨a,b⟩:=oH l (eP n g P) (fun x hx=>hl x (by simp [hx])) (qK h1 h2 h).1;refine ⟨a,fun V hV=>?_⟩;show aX l (dL g (tN _ P V))=_;rw [(Kr h1 h2 h).2.2 V hV,b _ ((aL h1).2.2 V hV)];rfl
end Go.Proofs.YtmenmibfkojnoaaGreat
