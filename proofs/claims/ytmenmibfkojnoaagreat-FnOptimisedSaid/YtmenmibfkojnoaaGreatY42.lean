/- Contract of CosetIndex (impl), for valid. -/
import Derived.Test.YtmenmibfkojnoaaGreatY37
set_option maxHeartbeats 16000000
set_option maxRecDepth 100000
namespace Go.Proofs.YtmenmibfkojnoaaGreat
open Go.RowKit
set_option linter.unusedVariables false
def fz:List Pq->Nat->Nat
 |[],k=>k
 |a :: r,k=>if a.x=0/\a.z=1 then k else fz r (k+1)
theorem KS {r:List Pq} {a0 a1:Pq} (hok:ed 1 r) (h0:r[0]? = some a0) (h1:r[1]? = some a1):cr r=fz [a1,a0,nY 1 r ⟨1,1,0⟩] 0/\cr r<=2:=by
 have h:=si hok;unfold yH at h;simp only [Bool.and_eq_true,decide_eq_true_eq] at h;obtain ⟨_,_,_,_,h5,h6,h7⟩:=h;have e0:r.getD 0 ⟨0,0,0⟩=a0:=by rw [List.getD_eq_getElem?_getD,h0];rfl
 have e1:r.getD 1 ⟨0,0,0⟩=a1:=by rw [List.getD_eq_getElem?_getD,h1];rfl
 have ey:nY 1 r ⟨1,1,0⟩=cn (cn ⟨0,0,0⟩ (r.getD 0 ⟨0,0,0⟩)) (r.getD 1 ⟨0,0,0⟩):=rfl;rw [e0,e1] at h5 h7 ey;refine ⟨?_,h6⟩;rw [ey,fz,fz,fz,fz];by_cases c1:a1.x=0/\a1.z=1
 ·rw [if_pos c1];rw [if_pos c1] at h5;exact h5
 ·rw [if_neg c1];rw [if_neg c1] at h5;by_cases c0:a0.x=0/\a0.z=1
  ·rw [if_pos c0];rw [if_pos c0] at h5;exact h5
  ·rw [if_neg c0];rw [if_neg c0] at h5;rw [h5] at h7;have:(cn (cn ⟨0,0,0⟩ a0) a1).x=0/\(cn (cn ⟨0,0,0⟩ a0) a1).z=1:=by simpa using h7
   rw [if_pos this];exact h5
theorem OE {l:List Pq} {k:Nat} {a:Pq} (h:l[k]? = some a):fz (l.drop k) k=if a.x=0/\a.z=1 then k else fz (l.drop (k+1)) (k+1):=by
 obtain ⟨hk,e⟩:=List.getElem?_eq_some_iff.1 h;rw [ax hk,e,fz]
theorem KT {p:Prop} (h:p:=by
  go_wp2_with fail;go_roundg (gk - 1)
  all_goals first
   |omega
   |exact ⟨k+1,zO,by go_num,HE.out,HB.alloc HB.size _⟩):p:=h
theorem OF (m c:Nat) (A:Option Addr) (r:List Pq) (w:World) (hr:RdG w A m (dP 1 r)) (hmc:m<=c) (hok:ed 1 r) :
  Calls Tryz.prog 200 #[.agg #[(1:Int),.slice A m c]] w fun e w'=>e=.returned (.int .i64 (cr r:Nat))/\Below w w w':=by
 have hm:m=2:=by rw [<- hr.1,ep,hok.1]
 subst hm;obtain ⟨b,off,rfl⟩:=hr.first zO;have HW:=zH hr;have HR:=zH hok;obtain ⟨a0,ha0⟩:=aV (l:=r) (k:=0) (by rw [hok.1];omega);obtain ⟨a1,ha1⟩:=aV (l:=r) (k:=1) (by rw [hok.1];omega);have X0:=zH (Bx.new w 73 #[(1:Int),.slice (some ⟨b,off,none⟩) 2 c]);have B0:=zH (show Below w w (w.alloc (.cells #[(1:Int),.slice (some ⟨b,off,none⟩) 2 c] 73)) from (zW).alloc zR _);have H0:=zH ha0;have H1:=zH ha1;obtain ⟨y,hy⟩:∃ y,nY 1 r ⟨1,1,0⟩=y:=⟨_,rfl⟩;have HY:=zH hy;obtain ⟨K,hK⟩:∃ K,cr r=K:=⟨_,rfl⟩;have HC:=zH (show fz ([a1,a0,y].drop 0) 0=K/\K<=2 by have:=KS hok ha0 ha1;rw [hy,hK] at this;exact ⟨this.1.symm,this.2⟩);have HK:=zH hK;clear hr hok ha0 ha1 hy hK;obtain ⟨x0,x1,_⟩:=X0.two;go_enter Tryz.func200,Tryz.ntmps200;go_wp2_with fail;refine (nU 1 2 c _ r _ zO (HW.below B0) hmc HR).mono ?_;rintro e w1 ⟨rfl,b1⟩;have B1:=zH (aa B0 b1);have X1:=zH (X0.below b1)
 clear b1 X0 B0 x0 x1;obtain ⟨x0,x1,_⟩:=X1.two;go_wp2_with fail;refine (RN 1 2 c _ r ⟨1,1,0⟩ y _ zO (HW.below B1) hmc HR zD HY).mono ?_;rintro e w2 ⟨rfl,b2⟩;have B2:=zH ((aa B1 b2).alloc (aa B1 b2).size (.cells #[(1:Int),y.x,y.z,y.p] 151));have X2:=zH ((X1.below b2).alloc (.cells #[(1:Int),y.x,y.z,y.p] 151));have Y2:=zH (Bx.new w2 151 #[(1:Int),y.x,y.z,y.p]);clear b2 X1 B1 x0 x1;go_upto_region 4 with fail
 obtain ⟨w3,hw3⟩:∃ x,w2.alloc (.cells #[(1:Int),y.x,y.z,y.p] 151)=x:=⟨_,rfl⟩;rw [hw3] at B2 X2 Y2 ⊢;clear hw3;obtain ⟨_,u0,u1,u2,u3⟩:=(HW.below B2.out).drew.cellsAt (aE H0.out);obtain ⟨_,v0,v1,v2,v3⟩:=(HW.below B2.out).drew.cellsAt (aE H1.out);obtain ⟨z0,z1,z2,z3⟩:=Y2.drew.four4;obtain ⟨x0,x1,_⟩:=X2.drew.two;simp only [pg,Nat.zero_mul,Nat.one_mul,Nat.add_zero] at u0 u1 u2 u3 v0 v1 v2 v3
 go_cut [30,31,32] (fun v30 v31 v32 wx=>∃ P,v30=.slice (some ⟨P,0,none⟩) 3 3/\v31=.int .i64 3/\v32=.int .i64 0/\Bx wx P 151 (af (dP 1 [a1,a0,y])).toArray/\Below w w wx)
 case first =>
  have TK:∀ (w':World),Below w3 w3 w'->((w'.cell? ⟨w,1,none⟩=some (.slice (some ⟨b,off,none⟩) 2 c))/\((w'.cell? ⟨b,off,none⟩=some (.int .i64 1)/\w'.cell? ⟨b,off+1,none⟩=some (.int .i64 (a0.x:Nat))/\w'.cell? ⟨b,off+2,none⟩=some (.int .i64 (a0.z:Nat))/\w'.cell? ⟨b,off+3,none⟩=some (.int .i64 (a0.p:Nat)))/\((w'.cell? ⟨b,off+4,none⟩=some (.int .i64 1)/\w'.cell? ⟨b,off+4+1,none⟩=some (.int .i64 (a1.x:Nat))/\w'.cell? ⟨b,off+4+2,none⟩=some (.int .i64 (a1.z:Nat))/\w'.cell? ⟨b,off+4+3,none⟩=some (.int .i64 (a1.p:Nat)))/\(w'.cell? ⟨w2,0,none⟩=some (.int .i64 1)/\w'.cell? ⟨w2,1,none⟩=some (.int .i64 (y.x:Nat))/\w'.cell? ⟨w2,2,none⟩=some (.int .i64 (y.z:Nat))/\w'.cell? ⟨w2,3,none⟩=some (.int .i64 (y.p:Nat)))))):=fun w5 b5=>by
   obtain ⟨_,u0',u1',u2',u3'⟩:=(HW.below (aa B2.out b5)).cellsAt (aE H0.out);obtain ⟨_,v0',v1',v2',v3'⟩:=(HW.below (aa B2.out b5)).cellsAt (aE H1.out);obtain ⟨z0',z1',z2',z3'⟩:=(Y2.below b5).four4;simp only [pg,Nat.zero_mul,Nat.one_mul,Nat.add_zero] at u0' u1' u2' u3' v0' v1' v2' v3';exact ⟨(X2.below b5).cell 1,⟨u0',u1',u2',u3'⟩,⟨v0',v1',v2',v3'⟩,z0',z1',z2',z3'⟩
  go_region_held3 (fun w'=>(w'.cell? ⟨w,1,none⟩=some (.slice (some ⟨b,off,none⟩) 2 c))/\((w'.cell? ⟨b,off,none⟩=some (.int .i64 1)/\w'.cell? ⟨b,off+1,none⟩=some (.int .i64 (a0.x:Nat))/\w'.cell? ⟨b,off+2,none⟩=some (.int .i64 (a0.z:Nat))/\w'.cell? ⟨b,off+3,none⟩=some (.int .i64 (a0.p:Nat)))/\((w'.cell? ⟨b,off+4,none⟩=some (.int .i64 1)/\w'.cell? ⟨b,off+4+1,none⟩=some (.int .i64 (a1.x:Nat))/\w'.cell? ⟨b,off+4+2,none⟩=some (.int .i64 (a1.z:Nat))/\w'.cell? ⟨b,off+4+3,none⟩=some (.int .i64 (a1.p:Nat)))/\(w'.cell? ⟨w2,0,none⟩=some (.int .i64 1)/\w'.cell? ⟨w2,1,none⟩=some (.int .i64 (y.x:Nat))/\w'.cell? ⟨w2,2,none⟩=some (.int .i64 (y.z:Nat))/\w'.cell? ⟨w2,3,none⟩=some (.int .i64 (y.p:Nat))))))
   (first
    |exact ⟨x1,⟨u0,u1,u2,u3⟩,⟨v0,v1,v2,v3⟩,z0,z1,z2,z3⟩
    |exact TK _ (((Below.refl w3 w3).alloc zR _).drew)
    |exact TK _ (((Below.refl w3 w3).drew).alloc zR _)
    |go_keep)
   (fail)
  all_goals go_wp2_with fail
  all_goals go_meet
  all_goals first
   |exact ⟨_,rfl,rfl,rfl,(Bx.new _ _ _).drew,(B2.alloc B2.size _).drew⟩
   |exact ⟨_,rfl,rfl,rfl,Bx.new _ _ _,B2.alloc B2.size _⟩
 case rest =>
  obtain ⟨P,rfl,rfl,rfl,hP,hB⟩:=hcut;clear u0 u1 u2 u3 v0 v1 v2 v3 z0 z1 z2 z3 x0 x1;have PR:=zH (show RdG wc (some ⟨P,0,none⟩) 3 (dP 1 [a1,a0,y]) from ⟨rfl,rfl,fun _=>⟨P,0,rfl,hP.lt,fun j u hu=>by rw [Nat.zero_add,hP.cell j,<- hu];simp⟩⟩);have BB:=zH hB;clear hP hB;go_wp2_with fail;go_loopg [32] 3 (fun g i wr=>∃ (k:Nat),k+g=3/\i=.int .i64 k/\fz ([a1,a0,y].drop k) k=K/\Below wc wc wr)
  case atStart=>exact ⟨0,zO,rfl,HC.out.1,zW⟩
  case round =>
   obtain ⟨k,hk,rfl,hf,hb⟩:=hrel;have HB:=zH hb;by_cases hlt:k < 3
   ·obtain ⟨a,ha⟩:=aV (l:=[a1,a0,y]) (k:=k) hlt;have HF:=zH (show (if a.x=0/\a.z=1 then k else fz ([a1,a0,y].drop (k+1)) (k+1))=K by rw [<- hf];exact (OE ha).symm);obtain ⟨_,u0,u1,u2,u3⟩:=(PR.below hb).cellsAt (aE ha);simp only [pg,Nat.zero_add] at u0 u1 u2 u3;have k3:(k:Int) < 3:=zO;clear hf ha hb;by_cases hx:a.x=0
    ·have hxb:(((a.x:Nat):Int) == 0)=true:=zJ;by_cases hz:a.z=1
     ·have hzb:(((a.z:Nat):Int) == 1)=true:=zJ;have HE:=zH (show k=K by have:=HF.out;rwa [if_pos ⟨hx,hz⟩] at this);clear hx hz;go_wp2_with fail;go_ret;exact ⟨cR (by rw [HE.out,HK.out]),aa BB.out (HB.alloc HB.size _)⟩
     ·have hzb:(((a.z:Nat):Int) == 1)=false:=zJ;have HE:=zH (show fz ([a1,a0,y].drop (k+1)) (k+1)=K by have:=HF.out;rwa [if_neg (fun h=>hz h.2)] at this);clear hx hz;exact KT
    ·have hxb:(((a.x:Nat):Int) == 0)=false:=zJ;have HE:=zH (show fz ([a1,a0,y].drop (k+1)) (k+1)=K by have:=HF.out;rwa [if_neg (fun h=>hx h.1)] at this);clear hx;exact KT
   ·obtain rfl:k=3:=zO;have:=HC.out.2;exact absurd hf (by show ¬ 3=K;omega)
theorem Qn (z:Zw):n1 (rt z)=2 * n1 z:=by simp only [n1,rt];grind
theorem Vu (z:Zw):n2 (rt z)=2 * n2 z:=by simp only [n2,rt];grind
theorem KU:∀ (k:Nat) (z:Zw),n1 (dl k z)=2 ^ k * n1 z
 |0,z=>by simp [dl]
 |k+1,z=>by rw [dl,Qn,KU k z,Int.pow_succ];grind
theorem VY (a:Int):(a * a) % 2=a % 2:=by rcases Int.emod_two_eq a with e | e<;>simp [Int.mul_emod,e]
theorem Cu:∀ (k:Nat) (z:Zw) (x y:Int),n1 z=2 ^ k * x->n2 z=2 ^ k * y->∃ w,z=dl k w
 |0,z,_,_,_,_=>⟨z,rfl⟩
 |k+1,z,x,y,h1,h2=>by
  have p1:n1 z=2 * (2 ^ k * x):=by rw [h1,Int.pow_succ];grind
  have p2:n2 z=2 * (2 ^ k * y):=by rw [h2,Int.pow_succ];grind
  have hz:∃ y,z=rt y:=by
   obtain ⟨a,b,c,d⟩:=z;unfold n1 at p1;unfold n2 at p2;simp only at p1 p2;have:=VY a;have:=VY b;have:=VY c;have:=VY d;have hm:(a+c) * (b+d)=2 * (2 ^ k * y+d * a):=by grind
   have hm2:((a+c) * (b+d)) % 2=0:=zO;have hac:(a+c) % 2=0:=by
    rcases Int.emod_two_eq (a+c) with e | e
    ·exact e
    ·have e2:(b+d) % 2=1:=zO;rw [Int.mul_emod,e,e2] at hm2;simp at hm2
   have hbd:(b+d) % 2=0:=zO;refine ⟨⟨(b+d) / 2 - d,(a+c) / 2,(b+d) / 2,(a+c) / 2 - a⟩,?_⟩
   apply du<;>simp only [rt]<;>omega
  obtain ⟨v,rfl⟩:=hz;rw [Qn] at p1;rw [Vu] at p2;obtain ⟨w,rfl⟩:=Cu k v x y zO zO;exact ⟨w,rfl⟩
theorem wQ {x s:Int} (h:x * x+s=1) (hs:0<=s) : -1<=x/\x<=1:=ze zO zO
theorem OI {z:Zw} (h:n1 z=1):∃ k,k < 8/\z=fw k:=by
 obtain ⟨a,b,c,d⟩:=z;unfold n1 at h;simp only at h;have:=kT a;have:=kT b;have:=kT c;have:=kT d;obtain ⟨a1,a2⟩:=wQ (x:=a) (s:=b * b+c * c+d * d) zO zO;obtain ⟨b1,b2⟩:=wQ (x:=b) (s:=a * a+c * c+d * d) zO zO;obtain ⟨c1,c2⟩:=wQ (x:=c) (s:=a * a+b * b+d * d) zO zO;obtain ⟨d1,d2⟩:=wQ (x:=d) (s:=a * a+b * b+c * c) zO zO;obtain rfl | rfl | rfl:a = -1\/a=0\/a=1:=zO
 all_goals obtain rfl | rfl | rfl:b = -1\/b=0\/b=1:=zO
 all_goals obtain rfl | rfl | rfl:c = -1\/c=0\/c=1:=zO
 all_goals obtain rfl | rfl | rfl:d = -1\/d=0\/d=1:=zO
 all_goals first
  |omega
  |(refine ⟨0,zO,?_⟩;rfl)
  |(refine ⟨1,zO,?_⟩;rfl)
  |(refine ⟨2,zO,?_⟩;rfl)
  |(refine ⟨3,zO,?_⟩;rfl)
  |(refine ⟨4,zO,?_⟩;rfl)
  |(refine ⟨5,zO,?_⟩;rfl)
  |(refine ⟨6,zO,?_⟩;rfl)
  |(refine ⟨7,zO,?_⟩;rfl)
theorem KV {h:Nat} {z:Zw} (h1:n1 z=2 ^ h) (h2:n2 z=0):∃ k,k < 8/\z=dl h (fw k):=by
 obtain ⟨w,rfl⟩:=Cu h z 1 0 zO zO;rw [KU] at h1;have hp:(0:Int) < 2 ^ h:=Int.pow_pos zO;obtain ⟨k,hk,rfl⟩:=OI (z:=w) (Int.eq_of_mul_eq_mul_left (a:=2 ^ h) zO zO);exact ⟨k,hk,rfl⟩
def Tg (n:Nat):Bool:=(List.range (2 ^ n)).all fun i=>i == 0 || (List.range n).any fun q=>dt (i &&& 2 ^ q) == 1 && decide (i ^^^ 2 ^ q < i)
def ON (i j:Nat):List Nat->Zw
 |[]=>⟨1,0,0,0⟩
 |q :: r=>ai (bV ⟨1,0,0,0⟩ (ai (fw (4 * dt (j &&& 2 ^ q))) (fw (4 * dt (i &&& 2 ^ q))))) (ON i j r)
def Th (n:Nat):Bool:=(List.range (2 ^ n)).all fun i=>(List.range (2 ^ n)).all fun j=>decide (ON i j (List.range n)=if j=i then ⟨2 ^ n,0,0,0⟩ else Zw.zero)
theorem Qo {n:Nat} (h:1<=n/\n<=4):Tg n=true/\Th n=true:=by
 obtain rfl | rfl | rfl | rfl:n=1\/n=2\/n=3\/n=4:=zO
 all_goals exact ⟨by decide +kernel,by decide +kernel⟩
theorem Qp {n i:Nat} (h:1<=n/\n<=4) (hi:i < 2 ^ n) (h0:i ≠ 0):∃ q,q < n/\dt (i &&& 2 ^ q)=1/\i ^^^ 2 ^ q < i:=by
 have:=List.all_eq_true.1 (Qo h).1 i (List.mem_range.2 hi);simp only [Bool.or_eq_true,beq_iff_eq,List.any_eq_true,List.mem_range,Bool.and_eq_true,decide_eq_true_eq] at this;rcases this with h1 | ⟨q,h1,h2,h3⟩
 ·exact absurd h1 h0
 ·exact ⟨q,h1,h2,h3⟩
theorem Eh {α:Type} {f:α->α}:∀ {r:List α},r.map f=r->∀ x ∈ r,f x=x
 |[],_,_,h=>by cases h
 |y :: r,h,x,hx=>by
  rw [List.map_cons] at h;injection h with h1 h2;rcases List.mem_cons.1 hx with rfl | hx
  ·exact h1
  ·exact Eh h2 x hx
theorem Ei {n q:Nat} (hq:q < n):ci n (xQ q)=true/\ci n (zQ q)=true:=by
 have hp:2 ^ q < 2 ^ n:=Nat.pow_lt_pow_right zO hq;have h0:0 < 2 ^ n:=Nat.pow_pos zO;exact ⟨okQn_iff.2 ⟨hp,h0,by show 0 < 4;omega⟩,okQn_iff.2 ⟨h0,hp,by show 0 < 4;omega⟩⟩
theorem wR {n:Nat} {l:List Gt} (hl:SZ n l):LinN (2 ^ n) (aX l):=aI l fun g hg=>(hl g hg).1
theorem Ti {z:Zw} (h:ai z (fw 4)=z):z=Zw.zero:=by
 obtain ⟨a,b,c,d⟩:=z;simp only [ai,fw,Zw.mk.injEq,Nat.reduceMod] at h
 apply du<;>simp only [Zw.zero]<;>omega
theorem Tj {N i:Nat} {V:List Zw} (hV:V.length=N) (hi:i < N) (h:∀ j,j < N->j ≠ i->V.getD j Zw.zero=Zw.zero):V=cB (V.getD i Zw.zero) (eN N i):=by
 refine bT (by rw [aK,be,hV]) fun s hs=>?_
 rw [bj,ko hi];by_cases hsi:s=i
 ·subst hsi;rw [if_pos rfl,cZ]
 ·rw [if_neg hsi,a8,h s zO hsi]
theorem F0 {n:Nat} {l:List Gt} (hn:1<=n/\n<=4) (hl:SZ n l) (hT:bH n l (ch n)=ch n):∃ k,k < 8/\∀ V,V.length=2 ^ n->aX l V=cB (fw k) (up (cP l) V):=by
 have lin:=wR hl;have h0:0 < 2 ^ n:=Nat.pow_pos zO;rw [nr] at hT;have hrow:=Eh hT;have hx:∀ q,q < n->∀ V,V.length=2 ^ n->aX l (tN (2 ^ n) (xQ q) V)=tN (2 ^ n) (xQ q) (aX l V):=fun q hq V hV=>by
  have:=(oH l _ hl (Ei hq).1).2 V hV;rwa [hrow (xQ q) (List.mem_append.2 (.inl (List.mem_map.2 ⟨q,List.mem_range.2 hq,rfl⟩)))] at this
 have hz:∀ q,q < n->∀ V,V.length=2 ^ n->aX l (tN (2 ^ n) (zQ q) V)=tN (2 ^ n) (zQ q) (aX l V):=fun q hq V hV=>by
  have:=(oH l _ hl (Ei hq).2).2 V hV;rwa [hrow (zQ q) (List.mem_append.2 (.inr (List.mem_map.2 ⟨q,List.mem_range.2 hq,rfl⟩)))] at this
 obtain ⟨v,hv⟩:∃ v,aX l (eN (2 ^ n) 0)=v:=⟨_,rfl⟩;have lv:v.length=2 ^ n:=by rw [<- hv];exact lin.2.2 _ (be _ _)
 obtain ⟨c,hc⟩:∃ c,v.getD 0 Zw.zero=c:=⟨_,rfl⟩;have hvc:v=cB c (eN (2 ^ n) 0):=by
  rw [<- hc];refine Tj lv h0 fun i hi hi0=>?_
  obtain ⟨q,hq,hp,_⟩:=Qp hn hi hi0;have e:=hz q hq _ (be _ 0);rw [wN h0 h0,show 2 * (zQ q).p+4 * dt (0 &&& (zQ q).z)=0 by simp [zQ,dt],nQ,show 0 ^^^ (zQ q).x=0 by simp [zQ],hv] at e;have e2:=congrArg (fun l=>l.getD i Zw.zero) e;rw [fy _ _ hi,show i ^^^ (zQ q).x=i by simp [zQ],show 2 * (zQ q).p+4 * dt (i &&& (zQ q).z)=4 by simp [zQ,hp]] at e2;exact Ti e2.symm
 have hall:∀ m i,i<=m->i < 2 ^ n->aX l (eN (2 ^ n) i)=cB c (eN (2 ^ n) i):=by
  intro m
  induction m with
  |zero =>
   intro i h1 _;obtain rfl:i=0:=zO;rw [hv];exact hvc
  |succ m ih =>
   intro i h1 hi;by_cases hi0:i=0
   ·subst hi0;rw [hv];exact hvc
   ·obtain ⟨q,hq,_,hlt⟩:=Qp hn hi hi0;have hj:i ^^^ 2 ^ q < 2 ^ n:=zO;have e:=hx q hq _ (be _ (i ^^^ 2 ^ q));have hxq:(xQ q).x < 2 ^ n:=(okQn_iff.1 (Ei hq).1).1;rw [ih _ zO hj,(oF _ _).2.1 _ _ (be _ _),wN hxq hj,show 2 * (xQ q).p+4 * dt ((i ^^^ 2 ^ q) &&& (xQ q).z)=0 by simp [xQ,dt],nQ,show i ^^^ 2 ^ q ^^^ (xQ q).x=i by show i ^^^ 2 ^ q ^^^ 2 ^ q=i;rw [Nat.xor_assoc,Nat.xor_self,Nat.xor_zero]] at e;exact e
 have hfull:∀ V,V.length=2 ^ n->aX l V=cB c V:=fun V hV=>fX lin (Cl _ c) (fun i hi=>hall i i zR hi) hV
 have hip:=wH l _ (fun g hg=>(hl g hg).1) (be (2 ^ n) 0);rw [hv,hvc,sS,uJ (by rw [aK,be]),bj,ko h0,if_pos rfl,cZ,cN,sV,sW h0,qV] at hip;injection hip with i1 i2;obtain ⟨k,hk,rfl⟩:=KV (h:=cP l) (by simpa using i1) (by simpa using i2)
 refine ⟨k,hk,fun V hV=>?_⟩;rw [hfull V hV,sU,lY,jA,cN]
def iL (l:List Gt):List Gt:=(l.map iD).reverse
theorem KW (g:Gt):iD (iD g)=g:=by
 obtain ⟨k,a,b,c⟩:=g;unfold iD;simp only [Gt.mk.injEq,and_self,and_true];split<;>rename_i h<;>(repeat' split)<;>omega
theorem Cv (g:Gt):hc (iD g)=hc g:=by
 unfold hc iD;simp only
 (repeat' split)<;>omega
theorem Ej {n:Nat} {l:List Gt} (h:∀ g ∈ l,bF n g=true):∀ g ∈ iL l,bF n g=true:=by
 intro g hg;obtain ⟨x,hx,rfl⟩:=List.mem_map.1 (List.mem_reverse.1 hg);exact BT (h x hx)
theorem OR {n:Nat} {g:Gt} (hg:bF n g=true) {V:List Zw} (hV:V.length=2 ^ n):dL g (dL (iD g) V)=up (2 * hc g) V:=by
 have:=qR (BT hg) hV;rw [KW,Cv] at this;exact this
theorem dq {p:Prop} (h:p:=by simp [hx]):p:=h
theorem wT {n:Nat}:∀ (l:List Gt) {V:List Zw},(∀ g ∈ l,bF n g=true)->V.length=2 ^ n->aX l (aX (iL l) V)=up (2 * cP l) V
 |[],V,_,_=>(BU V).symm
 |g :: r,V,h,hV=>by
  have hg:=h g zI;have hr:∀ x ∈ r,bF n x=true:=fun x hx=>h x dq
  have l1:=(aI _ (Ej hr)).2.2 V hV;have e:iL (g :: r)=iL r++[iD g]:=by simp [iL]
  rw [e,cK];show aX r (dL g (dL (iD g) _))=_;rw [OR hg l1,lQ (aI r hr) _ l1,wT r hr hV,gh];congr 1;show _=2 * (hc g+cP r);omega
theorem Qq {n:Nat}:∀ (l:List Gt) {V W:List Zw},(∀ g ∈ l,bF n g=true)->V.length=2 ^ n->W.length=2 ^ n->ip (aX l V) W=ip V (aX (iL l) W)
 |[],V,W,_,_,_=>rfl
 |g :: r,V,W,h,hV,hW=>by
  have hg:=h g zI;have hr:∀ x ∈ r,bF n x=true:=fun x hx=>h x dq
  have l1:=(aI _ (Ej hr)).2.2 W hW;have e:iL (g :: r)=iL r++[iD g]:=by simp [iL]
  rw [e,cK];show ip (aX r (dL g V)) W=ip V (dL (iD g) (aX (iL r) W));rw [Qq r hr ((aL hg).2.2 V hV) hW,J8 hg hV l1]
def pj (N:Nat) (Q:Nat->Pq) (i:Nat):List Nat->List Zw->List Zw
 |[],V=>V
 |q :: r,V=>pj N Q i r (bl V (cB (fw (4 * dt (i &&& 2 ^ q))) (tN N (Q q) V)))
theorem wU {N:Nat} {Q:Pq} {c:Zw} {V:List Zw} (hV:V.length=N):(bl V (cB c (tN N Q V))).length=N:=aH hV (by rw [aK,cA])
theorem Cw {N:Nat} (Q:Nat->Pq) (i:Nat):∀ (l:List Nat) (V:List Zw),V.length=N->(pj N Q i l V).length=N
 |[],V,h=>h
 |q :: r,V,h=>Cw Q i r _ (wU h)
theorem KX {N:Nat} (Q:Nat->Pq) (i:Nat) (c:Zw):∀ (l:List Nat) (V:List Zw),V.length=N->pj N Q i l (cB c V)=cB c (pj N Q i l V)
 |[],V,h=>rfl
 |q :: r,V,h=>by
  rw [pj,pj,<- KX Q i c r _ (wU h),(Cl N c).1 V _ h (by rw [aK,cA]),(oF N _).2.1 c V h,lY,lY,cN c]
theorem Vv {n:Nat} (i:Nat):∀ (l:List Nat) (V:List Zw),V.length=2 ^ n->∀ j,j < 2 ^ n->(pj (2 ^ n) zQ i l V).getD j Zw.zero=ai (V.getD j Zw.zero) (ON i j l)
 |[],V,_,j,_=>by
  show _=ai _ ⟨1,0,0,0⟩;rw [cN,cZ];rfl
 |q :: r,V,hV,j,hj=>by
  rw [pj,Vv i r _ (wU hV) j hj,aS (by rw [hV,aK,cA]),bj,fy _ _ hj,ON,<- jz];congr 1;rw [show j ^^^ (zQ q).x=j by simp [zQ],show 2 * (zQ q).p+4 * dt (j &&& (zQ q).z)=4 * dt (j &&& 2 ^ q) by simp [zQ],jz,cN _ (bV _ _),iG,cZ,cN (ai (fw _) _)]
theorem KY {n:Nat} {l:List Gt} (hl:SZ n l) (i:Nat):∀ (qs:List Nat) (V:List Zw),(∀ q ∈ qs,q < n)->V.length=2 ^ n->aX l (pj (2 ^ n) zQ i qs V)=pj (2 ^ n) (fun q=>gj n l (zQ q)) i qs (aX l V)
 |[],V,_,_=>rfl
 |q :: r,V,h,hV=>by
  have lin:=wR hl;rw [pj,pj,KY hl i r _ (fun x hx=>h x dq) (wU hV),lin.1 V _ hV (by rw [aK,cA]),lin.2.1 _ _ (cA ..),(oH l _ hl (Ei (h q zI)).2).2 V hV]
theorem Qr {k:Nat}:∀ {V:List Zw},(∀ z ∈ V,∃ w,z=dl k w)->∃ W,V=up k W
 |[],_=>⟨[],rfl⟩
 |z :: r,h=>by
  obtain ⟨w,rfl⟩:=h z zI;obtain ⟨W,rfl⟩:=Qr (V:=r) fun x hx=>h x dq
  exact ⟨w :: W,rfl⟩
theorem Vw {n:Nat} {l:List Gt} (hn:1<=n/\n<=4) (hl:SZ n l):Lv n n l:=by
 intro i hi;have lin:=wR hl;have hok:∀ g ∈ l,bF n g=true:=fun g hg=>(hl g hg).1
 by_cases hh:cP l<=n
 ·exact ⟨_,0,cP l,(BU _).symm,zO,hh,lin.2.2 _ (be _ _)⟩
 ·obtain ⟨k,hk⟩:∃ k,cP l=k+n:=⟨cP l - n,zO⟩;obtain ⟨v,hv⟩:∃ v,aX l (eN (2 ^ n) i)=v:=⟨_,rfl⟩;have lv:v.length=2 ^ n:=by rw [<- hv];exact lin.2.2 _ (be _ _)
  obtain ⟨W,hW⟩:∃ W,v=up k W:=by
   refine Qr fun z hz=>?_
   obtain ⟨j,hj,rfl⟩:=List.mem_iff_getElem.1 hz;have hjn:j < 2 ^ n:=zO;have ej:v[j]=v.getD j Zw.zero:=by rw [List.getD_eq_getElem?_getD,List.getElem?_eq_getElem hj];rfl
   rw [ej];have lW:(aX (iL l) (eN (2 ^ n) j)).length=2 ^ n:=(aI _ (Ej hok)).2.2 _ (be _ _);have hWi:(aX (iL l) (eN (2 ^ n) j)).getD i Zw.zero=cj (v.getD j Zw.zero):=by
    have e:=Qq l hok (be (2 ^ n) i) (be (2 ^ n) j);rw [hv,uJ lW,<- zd _ _ (by rw [be,lv]),uJ lv,DR] at e;rw [e,DR]
   have hP:=KY hl i (List.range n) _ (fun q hq=>List.mem_range.1 hq) lW;have hpz:pj (2 ^ n) zQ i (List.range n) (aX (iL l) (eN (2 ^ n) j))=cB (ai (cj (v.getD j Zw.zero)) ⟨2 ^ n,0,0,0⟩) (eN (2 ^ n) i):=by
    refine bT (by rw [Cw _ _ _ _ lW,aK,be]) fun s hs=>?_
    rw [Cw _ _ _ _ lW] at hs;have hf:=of_decide_eq_true (List.all_eq_true.1 (List.all_eq_true.1 (Qo hn).2 i (List.mem_range.2 hi)) s (List.mem_range.2 hs));rw [Vv i _ _ lW s hs,hf,bj,ko hi];by_cases hsi:s=i
    ·subst hsi;rw [if_pos rfl,if_pos rfl,hWi,cZ]
    ·rw [if_neg hsi,if_neg hsi,a8,cN,a8]
   rw [hpz,lin.2.1 _ _ (be _ _),hv,wT l hok (be _ _),sU,KX _ _ _ _ _ (be _ _)] at hP;have e2:=congrArg (fun l=>l.getD j Zw.zero) hP;simp only [bj] at e2;rw [<- jA,show 2 * cP l=cP l+cP l by omega,qV,<- jz,sV] at e2;obtain ⟨X,hX⟩:∃ X,(pj (2 ^ n) (fun q=>gj n l (zQ q)) i (List.range n) (eN (2 ^ n) j)).getD j Zw.zero=X:=⟨_,rfl⟩;rw [hX,hk] at e2;simp only [ai,Zw.mk.injEq] at e2;have hp:(0:Int) < 2 ^ n:=Int.pow_pos zO;have hpk:(2:Int) ^ (k+n)=2 ^ k * 2 ^ n:=Int.pow_add ..;refine Cu k _ X.a X.b ?_ ?_
   ·refine Int.eq_of_mul_eq_mul_left (a:=2 ^ n) zO ?_;have:=e2.1;rw [hpk] at this
    grind
   ·refine Int.eq_of_mul_eq_mul_left (a:=2 ^ n) zO ?_;have:=e2.2.1;rw [hpk] at this
    grind
  refine ⟨W,k,n,hv.trans hW,hk,zR,?_⟩;rw [hW,gf] at lv;exact lv
def gF (h:Gt) (t:Nat × Zw):List (Nat × Zw):=(gx h t.1).map fun s=>(s.1,ai s.2 t.2)
theorem wV (N:Nat) (c:Zw) (l:List (Nat × Zw)):cB c (lX N l)=lX N (l.map fun s=>(s.1,ai s.2 c)):=by
 have:=mD (Cl N c) (F:=fun s=>[(s.1,ai s.2 c)]) l (fun t _=>by rw [oG,lY,cN]);rwa [<- List.map_eq_flatMap] at this
def F5:List Gt->List (Nat × Zw)->List (Nat × Zw)
 |[],l=>l
 |g :: r,l=>F5 r (l.flatMap (gF g))
theorem zy {n:Nat}:∀ (u:List Gt) (l:List (Nat × Zw)),(∀ g ∈ u,bF n g=true)->(∀ t ∈ l,t.1 < 2 ^ n)->aX u (lX (2 ^ n) l)=lX (2 ^ n) (F5 u l)/\∀ t ∈ F5 u l,t.1 < 2 ^ n
 |[],l,_,hl=>⟨rfl,hl⟩
 |g :: r,l,hu,hl=>by
  have hg:=hu g zI;have e:dL g (lX (2 ^ n) l)=lX (2 ^ n) (l.flatMap (gF g)):=mD (aL hg) l fun t ht=>by rw [kJ hg (hl t ht),wV];rfl
  have:=zy r (l.flatMap (gF g)) (fun x hx=>hu x dq) (fun t ht=>by
   obtain ⟨s,hs,ht⟩:=List.mem_flatMap.1 ht;obtain ⟨x,hx,rfl⟩:=List.mem_map.1 ht;exact DY hg (hl s hs) x hx)
  rw [<- e] at this;exact this
def Vx (l:List (Nat × Zw)) (j:Nat):Zw:=match l with
 |[]=>Zw.zero
 |t :: r=>bV (if j=t.1 then t.2 else Zw.zero) (Vx r j)
theorem wW {N:Nat} (j:Nat):∀ l:List (Nat × Zw),(∀ t ∈ l,t.1 < N)->(lX N l).getD j Zw.zero=Vx l j
 |[],_=>eQ N j Zw.zero
 |t :: r,h=>by
  rw [lX,Vx,aS (by rw [aK,be,fA]),wW j r (fun x hx=>h x dq),bj,ko (h t zI)];congr 1;split
  ·exact cZ _
  ·exact a8 _
theorem Tk (N i:Nat):lX N [(i,⟨1,0,0,0⟩)]=eN N i:=by rw [oG];exact nQ _
abbrev Ex:=List (Zw × List Gt)
def kL (N:Nat):Ex->List Zw->List Zw
 |[],_=>List.replicate N Zw.zero
 |t :: r,V=>bl (cB t.1 (aX t.2 V)) (kL N r V)
def zG (q:Int):Gt:=⟨3,q,0,0⟩
def xG (q:Int):Gt:=⟨1,q,0,0⟩
def wX (g:Gt):Ex :=
 let a:=zG g.a
 let x:=xG g.a
 let b:=zG g.b
 let y:=xG g.b
 let z:=xG g.c
 let o:Zw:=⟨1,0,0,0⟩
 let m:Zw:=⟨-1,0,0,0⟩
 if g.k=1 then [(o,[x])]
 else if g.k=2 then [(⟨0,0,1,0⟩,[a,x])]
 else if g.k=3 then [(o,[a])]
 else if g.k=4 then [(o,[x]),(o,[a])]
 else if g.k=5 then [(⟨1,0,1,0⟩,[]),(⟨1,0, -1,0⟩,[a])]
 else if g.k=6 then [(⟨1,0, -1,0⟩,[]),(⟨1,0,1,0⟩,[a])]
 else if g.k=7 then [(⟨1,1,0,0⟩,[]),(⟨1, -1,0,0⟩,[a])]
 else if g.k=8 then [(⟨1,0,0, -1⟩,[]),(⟨1,0,0,1⟩,[a])]
 else if g.k=9 then [(o,[]),(o,[a]),(o,[y]),(m,[a,y])]
 else if g.k=10 then [(o,[]),(o,[a]),(o,[b]),(m,[a,b])]
 else if g.k=11 then [(o,[]),(o,[x,y]),(o,[a,b]),(m,[a,x,b,y])]
 else [(⟨3,0,0,0⟩,[]),(o,[a]),(o,[b]),(o,[z]),(m,[a,b]),(m,[a,z]),(m,[b,z]),(o,[a,b,z])]
def sx (g:Gt):Nat:=if g.k<=4 then 0 else if g.k=12 then 4 else 2
def wt (g:Gt):Nat:=if g.k=7\/g.k=8 then 2 else if g.k=12 then 4 else 0
def md:List Gt->Nat
 |[]=>0
 |g :: r=>wt g+md r
theorem jE:∀ a b:List Gt,md (a++b)=md a+md b
 |[],b=>(Nat.zero_add _).symm
 |g :: r,b=>by
  show wt g+md (r++b)=wt g+md r+md b;rw [jE r b];omega
def WH (g:Gt) (i:Nat):List (Nat × Zw):=(wX g).flatMap fun t=>(F5 t.2 [(i,⟨1,0,0,0⟩)]).map fun s=>(s.1,ai s.2 t.1)
def wY (n:Nat):List Gt:=(List.range n).flatMap fun q:Nat=>[xG (q:Int),zG (q:Int)]
def mU (n:Nat) (g:Gt):Bool:=(wX g).all (fun t=>t.2.all fun u=>(wY n).contains u) && ((bh g.k || (decide (hc g=0) && (decide (2<=wt g) && decide (wt g=sx g)))) && (List.range (2 ^ n)).all fun i=>(List.range (2 ^ n)).all fun j=>decide (ai (Vx (gx g i) j) (dl (sx g) ⟨1,0,0,0⟩)=Vx (WH g i) j))
def Tl (n:Nat):Bool:=(wY n).all fun u=>bF n u && (decide (wt u=0) && decide (hc u=0))
theorem KZ {p:Prop} (h:p:=by
  obtain rfl | rfl | rfl | rfl:n=1\/n=2\/n=3\/n=4:=zO
  all_goals decide +kernel):p:=h
theorem wZ {n:Nat} (h:1<=n/\n<=4) {u:Gt} (hu:u ∈ wY n):bF n u=true/\wt u=0/\hc u=0:=by
 have h0:Tl n=true:=by
  exact KZ
 have:=List.all_eq_true.1 h0 u hu;simpa using this
theorem Vy:(bC 1).all (mU 1)=true:=by decide +kernel
theorem Vz:(bC 2).all (mU 2)=true:=by decide +kernel
theorem VB:(bC 3).all (mU 3)=true:=by decide +kernel
theorem Tm:((bC 4).take 56).all (mU 4)=true:=by decide +kernel
theorem Tn:(((bC 4).drop 56).take 18).all (mU 4)=true:=by decide +kernel
theorem To:((bC 4).drop 74).all (mU 4)=true:=by decide +kernel
theorem tm {n:Nat} (h:1<=n/\n<=4):(bC n).all (mU n)=true:=by
 obtain rfl | rfl | rfl | rfl:n=1\/n=2\/n=3\/n=4:=zO
 ·exact Vy
 ·exact Vz
 ·exact VB
 ·refine de Tm (de Tn ?_);rw [List.drop_drop];exact To
theorem F6 {N:Nat} {a b c d:List Zw} (ha:a.length=N) (hb:b.length=N) (hc:c.length=N) (hd:d.length=N):bl (bl a b) (bl c d)=bl (bl a c) (bl b d):=by
 refine bT (by rw [aH (aH ha hb) (aH hc hd),aH (aH ha hc) (aH hb hd)]) fun s _=>?_
 rw [aS (by rw [aH ha hb,aH hc hd]),aS (by rw [ha,hb]),aS (by rw [hc,hd]),aS (by rw [aH ha hc,aH hb hd]),aS (by rw [ha,hc]),aS (by rw [hb,hd]),rJ]
theorem LinN.sum {N:Nat} {f h:List Zw->List Zw} (hf:LinN N f) (hh:LinN N h):LinN N (fun V=>bl (f V) (h V)):=by
 refine ⟨fun V W h1 h2=>?_,fun c V h1=>?_,fun V h1=>aH (hf.2.2 V h1) (hh.2.2 V h1)⟩
 ·simp only;rw [hf.1 V W h1 h2,hh.1 V W h1 h2,F6 (hf.2.2 V h1) (hf.2.2 W h2) (hh.2.2 V h1) (hh.2.2 W h2)]
 ·simp only;rw [hf.2.1 c V h1,hh.2.1 c V h1,(Cl N c).1 _ _ (hf.2.2 V h1) (hh.2.2 V h1)]
theorem K0 (N:Nat):LinN N (fun _=>List.replicate N Zw.zero):=⟨fun _ _ _ _=>(Do N).symm,fun c _ _=>(mr c N).symm,fun _ _=>List.length_replicate⟩
theorem gu {n:Nat}:∀ e:Ex,(∀ t ∈ e,∀ u ∈ t.2,bF n u=true)->LinN (2 ^ n) (kL (2 ^ n) e)
 |[],_=>K0 _
 |t :: r,h=>((aI t.2 (h t zI)).comp (Cl _ t.1)).sum (gu r fun x hx=>h x dq)
theorem zz {n:Nat} {b:List Gt} (hb:∀ g ∈ b,bF n g=true) {V:List Zw} (hV:V.length=2 ^ n):∀ e:Ex,(∀ t ∈ e,∀ u ∈ t.2,bF n u=true)->aX b (kL (2 ^ n) e V)=kL (2 ^ n) (e.map fun t=>(t.1,t.2++b)) V
 |[],_=>by
  have l:=aI b hb;show aX b (List.replicate _ _)=List.replicate _ _;have:=l.2.1 Zw.zero (List.replicate (2 ^ n) Zw.zero) List.length_replicate;rw [mr] at this;rw [this];refine bT (by rw [aK,l.2.2 _ List.length_replicate,List.length_replicate]) fun s _=>?_
  rw [bj,eQ,cN,a8]
 |t :: r,h=>by
  have l:=aI b hb;have l1:=(aI t.2 (h t zI)).2.2 V hV;have hr:∀ x ∈ r,∀ u ∈ x.2,bF n u=true:=fun x hx=>h x dq
  rw [List.map_cons,kL,kL,l.1 _ _ (by rw [aK,l1]) ((gu r hr).2.2 V hV),l.2.1 _ _ l1,zz hb hV r hr,cK]
def Dv2 (m:Nat) (V:List Zw):Prop:=∃ W,V=up m W
theorem Dv2.sum {N m:Nat} {V W:List Zw} (hV:V.length=N) (hW:W.length=N) (h:Dv2 m V) (k:Dv2 m W):Dv2 m (bl V W):=by
 obtain ⟨A,rfl⟩:=h;obtain ⟨B,rfl⟩:=k;rw [gf] at hV hW;exact ⟨bl A B,((ke N m).1 A B hV hW).symm⟩
theorem Ek {n m k:Nat} {V:List Zw} (hV:V.length=2 ^ n):∀ e:Ex,(∀ t ∈ e,∀ u ∈ t.2,bF n u=true)->(∀ t ∈ e,Dv2 m (up k (aX t.2 V)))->Dv2 m (up k (kL (2 ^ n) e V))
 |[],_,_=>by
  have z:∀ j:Nat,List.replicate (2 ^ n) Zw.zero=up j (List.replicate (2 ^ n) Zw.zero):=fun j=>by
   unfold up;rw [List.map_replicate,jA,a8]
  exact ⟨List.replicate (2 ^ n) Zw.zero,by show up k (List.replicate _ _)=_;rw [<- z,<- z]⟩
 |t :: r,h,hd=>by
  have l1:=(aI t.2 (h t zI)).2.2 V hV;have hr:∀ x ∈ r,∀ u ∈ x.2,bF n u=true:=fun x hx=>h x dq
  have l2:=(gu r hr).2.2 V hV;have e:up k (kL (2 ^ n) (t :: r) V)=bl (up k (cB t.1 (aX t.2 V))) (up k (kL (2 ^ n) r V)):=(ke (2 ^ n) k).1 _ _ (by rw [aK,l1]) l2;rw [e,i9];refine Dv2.sum (N:=2 ^ n) (by rw [aK,gf,l1]) (by rw [gf,l2]) ?_ (Ek hV r hr fun x hx=>hd x dq);obtain ⟨W,hW⟩:=hd t zI;exact ⟨cB t.1 W,by rw [hW,i9]⟩
theorem El (N:Nat):∀ a b:List (Nat × Zw),lX N (a++b)=bl (lX N a) (lX N b)
 |[],b=>(ki (fA N b)).symm
 |t :: r,b=>by
  rw [List.cons_append,lX,El N r b];exact (nq (by rw [aK,be]) (fA N r) (fA N b)).symm
theorem Em {n i:Nat} (hi:i < 2 ^ n):∀ e:Ex,(∀ t ∈ e,∀ u ∈ t.2,bF n u=true)->kL (2 ^ n) e (eN (2 ^ n) i)=lX (2 ^ n) (e.flatMap fun t=>(F5 t.2 [(i,⟨1,0,0,0⟩)]).map fun s=>(s.1,ai s.2 t.1))/\∀ t ∈ e.flatMap fun t=>(F5 t.2 [(i,⟨1,0,0,0⟩)]).map fun s=>(s.1,ai s.2 t.1),t.1 < 2 ^ n
 |[],_=>⟨rfl,zI⟩
 |t :: r,h=>by
  obtain ⟨a1,a2⟩:=Em hi r fun x hx=>h x dq
  obtain ⟨b1,b2⟩:=zy t.2 [(i,⟨1,0,0,0⟩)] (h t zI) (fun s hs=>by rw [List.mem_singleton.1 hs];exact hi);rw [Tk] at b1;rw [List.flatMap_cons];refine ⟨by rw [El,<- a1,<- wV,<- b1];rfl,fun s hs=>?_⟩;rcases List.mem_append.1 hs with hs | hs
  ·obtain ⟨x,hx,rfl⟩:=List.mem_map.1 hs;exact b2 x hx
  ·exact a2 s hs
theorem xg {n:Nat} {g:Gt} (hg:bF n g=true):∀ t ∈ wX g,∀ u ∈ t.2,u ∈ wY n:=by
 have h:=List.all_eq_true.1 (tm (dm hg)) g (cS hg);unfold mU at h;simp only [Bool.and_eq_true,List.all_eq_true] at h;exact fun t ht u hu=>by simpa using h.1 t ht u hu
theorem Cx {n:Nat} {g:Gt} (hg:bF n g=true):(∀ t ∈ wX g,∀ u ∈ t.2,bF n u=true)/\∀ V,V.length=2 ^ n->up (sx g) (dL g V)=kL (2 ^ n) (wX g) V:=by
 have hu:∀ t ∈ wX g,∀ u ∈ t.2,bF n u=true:=fun t ht u hu=>(wZ (dm hg) (xg hg t ht u hu)).1
 have h:=List.all_eq_true.1 (tm (dm hg)) g (cS hg);unfold mU at h;simp only [Bool.and_eq_true,List.all_eq_true,decide_eq_true_eq] at h;obtain ⟨h1,h2,h4⟩:=h;refine ⟨hu,fun V hV=>fX (f:=fun V=>up (sx g) (dL g V)) ((aL hg).comp (ke _ _)) (gu _ hu) (fun i hi=>?_) hV⟩;obtain ⟨a1,a2⟩:=Em hi (wX g) hu;refine bT (by rw [gf,(aL hg).2.2 _ (be _ _),(gu _ hu).2.2 _ (be _ _)]) fun j hj=>?_
 rw [gf,(aL hg).2.2 _ (be _ _)] at hj;rw [sU,bj,kJ hg hi,wW j _ (DY hg hi),a1,wW j _ a2];exact h4 i (List.mem_range.2 hi) j (List.mem_range.2 hj)
theorem K4 {n:Nat} {g:Gt} (hg:bF n g=true) (hc':bh g.k=false):(∀ t ∈ wX g,(∀ u ∈ t.2,bF n u=true)/\md t.2=0/\cP t.2=0)/\hc g=0/\2<=wt g/\∀ V,V.length=2 ^ n->up (wt g) (dL g V)=kL (2 ^ n) (wX g) V:=by
 have h:=List.all_eq_true.1 (tm (dm hg)) g (cS hg);unfold mU at h;simp only [hc',Bool.false_or,Bool.and_eq_true,decide_eq_true_eq] at h;obtain ⟨_,⟨h2,h3,h5⟩,_⟩:=h;obtain ⟨a1,a2⟩:=Cx hg;rw [h5];have hz:∀ l:List Gt,(∀ u ∈ l,u ∈ wY n)->md l=0/\cP l=0:=by
  intro l hl
  induction l with
  |nil=>exact ⟨rfl,rfl⟩
  |cons u r ih =>
   have h1:=wZ (dm hg) (hl u zI);have h2:=ih fun x hx=>hl x dq
   exact ⟨by show wt u+md r=0;omega,by show hc u+cP r=0;omega⟩
 exact ⟨fun t ht=>⟨a1 t ht,hz _ (xg hg t ht)⟩,h2,zO,a2⟩
theorem Tp {n:Nat} (hn:1<=n/\n<=4):∀ (m:Nat) (p:List Gt),(∀ g ∈ p,bF n g=true)->md p<=m->∀ i,i < 2 ^ n->Dv2 (cP p) (up (md p+n) (aX p (eN (2 ^ n) i))):=by
 intro m
 induction m with
 |zero=>exact fun p hp hw i hi=>base hn p hp zO i hi (fun g hg=>by
   cases hk:bh g.k
   ·have h2:=(K4 (hp g hg) hk).2.2.1;obtain ⟨a,b,rfl⟩:=List.append_of_mem hg;rw [jE] at hw;have:md (g :: b)=wt g+md b:=rfl;omega
   ·rfl)
 |succ m ih =>
  intro p hp hw i hi;by_cases hcl:∀ g ∈ p,bh g.k=true
  ·have hw0:md p=0:=by
    clear hw ih
    induction p with
    |nil=>rfl
    |cons g r ih2 =>
     show wt g+md r=0;rw [ih2 (fun x hx=>hp x dq) (fun x hx=>hcl x dq)];have:=hcl g zI;unfold wt;unfold bh at this;simp only [Bool.and_eq_true,decide_eq_true_eq,Bool.not_eq_true',beq_eq_false_iff_ne] at this;rw [if_neg zO,if_neg zO]
   exact base hn p hp hw0 i hi hcl
  ·obtain ⟨g,hg,hk⟩:∃ g,g ∈ p/\bh g.k=false:=by
    simp only [Classical.not_forall,Bool.not_eq_true] at hcl;obtain ⟨g,h1,h2⟩:=hcl;exact ⟨g,h1,h2⟩
   obtain ⟨a,b,rfl⟩:=List.append_of_mem hg;obtain ⟨x1,x2,x3,x4⟩:=K4 (hp g hg) hk;have ha:∀ x ∈ a,bF n x=true:=fun x hx=>hp x dq
   have hb:∀ x ∈ b,bF n x=true:=fun x hx=>hp x dq
   have lV:=(aI a ha).2.2 _ (be (2 ^ n) i);have lg:=(aL (hp g hg)).2.2 _ lV;have e1:md (a++g :: b)=md a+md b+wt g:=by rw [jE];show _+(wt g+md b)=_;omega
   have e2:cP (a++g :: b)=cP a+cP b:=by rw [dE];show _+(hc g+cP b)=_;omega
   rw [cK,e1,show md a+md b+wt g+n=(md a+md b+n)+wt g by omega,<- gh,e2];show Dv2 _ (up _ (up _ (aX b (dL g _))));rw [<- lQ (aI b hb) _ lg,x4 _ lV,zz hb lV _ fun t ht=>(x1 t ht).1];refine Ek lV _ (fun t ht u hu=>?_) fun t ht=>?_
   ·obtain ⟨s,hs,rfl⟩:=List.mem_map.1 ht;rcases List.mem_append.1 hu with hu | hu
    ·exact (x1 s hs).1 u hu
    ·exact hb u hu
   ·obtain ⟨s,hs,rfl⟩:=List.mem_map.1 ht;obtain ⟨y1,y2,y3⟩:=x1 s hs;have:=ih (a++(s.2++b)) (fun x hx=>by
     simp only [List.mem_append] at hx;rcases hx with hx | hx | hx
     ·exact ha x hx
     ·exact y1 x hx
     ·exact hb x hx) (by rw [jE,jE,y2];omega) i hi
    rw [jE,jE,y2,dE,dE,y3,Nat.zero_add,Nat.zero_add,cK] at this;exact this
where
 base {n:Nat} (hn:1<=n/\n<=4) (p:List Gt) (hp:∀ g ∈ p,bF n g=true) (hw:md p=0) (i:Nat) (hi:i < 2 ^ n) (hcl:∀ g ∈ p,bh g.k=true):Dv2 (cP p) (up (md p+n) (aX p (eN (2 ^ n) i))):=by
  obtain ⟨W,k,E,h1,h2,h3,h4⟩:=Vw hn (fun g hg=>⟨hp g hg,hcl g hg⟩) i hi;exact ⟨up (n - E) W,by rw [h1,hw,h2,gh,gh];congr 1;omega⟩
theorem Tq {n B:Nat} {p:List Gt} (hn:1<=n/\n<=4) (hp:∀ g ∈ p,bF n g=true) (hB:md p+n<=B):Lv n B p:=by
 intro i hi;have l:=(aI p hp).2.2 _ (be (2 ^ n) i);by_cases h:cP p<=md p+n
 ·exact ⟨_,0,cP p,(BU _).symm,zO,zO,l⟩
 ·obtain ⟨W,hW⟩:=Tp hn _ p hp zR i hi;obtain ⟨k,hk⟩:∃ k,cP p=md p+n+k:=⟨cP p - (md p+n),zO⟩;rw [hk,<- gh (md p+n) k] at hW;have e:=BV _ hW;exact ⟨W,k,md p+n,e,zO,hB,by rw [e,gf] at l;exact l⟩
def two (g h:Gt) (i:Nat):List (Nat × Zw):=(gx g i).flatMap (gF h)
theorem xh {n:Nat} {g h:Gt} (hg:bF n g=true) (hh:bF n h=true) {i:Nat} (hi:i < 2 ^ n):dL h (dL g (eN (2 ^ n) i))=lX (2 ^ n) (two g h i):=by
 rw [kJ hg hi];exact mD (aL hh) _ (fun t ht=>by rw [kJ hh (DY hg hi t ht),wV];rfl)
def WI (l:List Gt) (i:Nat):List (Nat × Zw):=match l with
 |[]=>[(i,⟨1,0,0,0⟩)]
 |g :: _=>gx g i
def c3:List Gt->Nat
 |[]=>0
 |g :: r=>(if g.k=12 then 1 else 0)+c3 r
theorem eE:∀ a b:List Gt,c3 (a++b)=c3 a+c3 b
 |[],b=>(Nat.zero_add _).symm
 |g :: r,b=>by
  show _+c3 (r++b)=_+c3 r+c3 b;rw [eE r b];omega
abbrev je (n:Nat) (l:List Gt):Prop:=∀ g ∈ l,bF n g=true
def Tr (x y:Gt):Bool:=x.k == y.k || x.a != y.a
def K7 (n:Nat) (g h:Gt):Bool:=!(jI g h) || (wX g).all fun t=>(wX h).all fun s=>t.2.all fun x=>s.2.all fun y=>Tr x y
def VC (n:Nat):Bool:=(wY n).all fun x=>(wY n).all fun y=>!(Tr x y) || (List.range (2 ^ n)).all fun i=>(two x y i).isPerm (two y x i)
def Cm (n:Nat) (f h:List Zw->List Zw):Prop:=∀ V,V.length=2 ^ n->f (h V)=h (f V)
theorem Ts {n:Nat} (hn:1<=n/\n<=4) {x y:Gt} (hx:x ∈ wY n) (hy:y ∈ wY n) (h:Tr x y=true):Cm n (dL x) (dL y):=by
 have h0:VC n=true:=by
  exact KZ
 have h1:=List.all_eq_true.1 (List.all_eq_true.1 h0 x hx) y hy;simp only [h,Bool.not_true,Bool.false_or,List.all_eq_true] at h1;have ox:=(wZ hn hx).1;have oy:=(wZ hn hy).1;refine fun V hV=>fX (f:=fun V=>dL x (dL y V)) (h:=fun V=>dL y (dL x V)) ((aL oy).comp (aL ox)) ((aL ox).comp (aL oy)) (fun i hi=>?_) hV
 rw [xh oy ox hi,xh ox oy hi];exact (ta (List.isPerm_iff.1 (h1 i (List.mem_range.2 hi)))).symm
theorem xi {n:Nat} {f:List Zw->List Zw}:∀ u:List Gt,je n u->(∀ x ∈ u,Cm n f (dL x))->Cm n f (aX u)
 |[],_,_=>fun V _=>rfl
 |x :: r,hu,h=>fun V hV=>by
  show f (aX r (dL x V))=aX r (dL x (f V));rw [xi r (fun y hy=>hu y (by simp [hy])) (fun y hy=>h y (by simp [hy])) _ ((aL (hu x zI)).2.2 V hV),h x zI V hV]
theorem Cy {n:Nat} {f:List Zw->List Zw} (hf:LinN (2 ^ n) f):∀ e:Ex,(∀ t ∈ e,je n t.2)->(∀ t ∈ e,Cm n f (aX t.2))->Cm n f (kL (2 ^ n) e)
 |[],_,_=>fun V hV=>by
  show f (List.replicate _ _)=List.replicate _ _;have:=hf.2.1 Zw.zero (List.replicate (2 ^ n) Zw.zero) List.length_replicate;rw [mr] at this;rw [this];refine bT (by rw [aK,hf.2.2 _ List.length_replicate,List.length_replicate]) fun s _=>?_
  rw [bj,eQ,cN,a8]
 |t :: r,ho,h=>fun V hV=>by
  have l1:=(aI t.2 (ho t zI)).2.2 V hV;have hr:∀ x ∈ r,je n x.2:=fun x hx=>ho x dq
  rw [kL,hf.1 _ _ (by rw [aK,l1]) ((gu r hr).2.2 V hV),hf.2.1 _ _ l1,h t zI V hV,Cy hf r hr (fun x hx=>h x dq) V hV];rfl
def K8 (n:Nat) (g h:Gt):Bool:=!(bK g h) || ((aU g h).all (bF n) && (decide (c3 (aU g h)<=c3 [g,h]) && (decide (h=iD g/\aU g h=[]) || (decide (hc g=0/\hc h=0/\cP (aU g h)=0) && (List.range (2 ^ n)).all fun i=>(two g h i).isPerm (WI (aU g h) i)))))
def py (n:Nat) (g:Gt):Bool:=(bC n).all fun h=>K7 n g h && K8 n g h
theorem VD:(bC 1).all (py 1)=true:=by decide +kernel
theorem VE:(bC 2).all (py 2)=true:=by decide +kernel
theorem VF:(bC 3).all (py 3)=true:=by decide +kernel
theorem Tt:((bC 4).take 12).all (py 4)=true:=by decide +kernel
theorem Tu:(((bC 4).drop 12).take 12).all (py 4)=true:=by decide +kernel
theorem Tv:(((bC 4).drop 24).take 12).all (py 4)=true:=by decide +kernel
theorem Tw:(((bC 4).drop 36).take 12).all (py 4)=true:=by decide +kernel
theorem Tx:(((bC 4).drop 48).take 12).all (py 4)=true:=by decide +kernel
theorem Ty:(((bC 4).drop 60).take 12).all (py 4)=true:=by decide +kernel
theorem Tz:(((bC 4).drop 72).take 12).all (py 4)=true:=by decide +kernel
theorem TG:((bC 4).drop 84).all (py 4)=true:=by decide +kernel
theorem VG:(bC 4).all (py 4)=true:=by
 refine de Tt ?_;refine de Tu ?_;rw [List.drop_drop];refine de Tv ?_;rw [List.drop_drop];refine de Tw ?_;rw [List.drop_drop];refine de Tx ?_;rw [List.drop_drop];refine de Ty ?_;rw [List.drop_drop];refine de Tz ?_;rw [List.drop_drop];exact TG
theorem En {n:Nat} {g h:Gt} (hg:bF n g=true) (hh:bF n h=true):K7 n g h=true/\K8 n g h=true:=by
 have hn:=dm hg;have h0:(bC n).all (py n)=true:=by
  obtain rfl | rfl | rfl | rfl:n=1\/n=2\/n=3\/n=4:=zO
  ·exact VD
  ·exact VE
  ·exact VF
  ·exact VG
 have h1:=List.all_eq_true.1 (List.all_eq_true.1 h0 g (cS hg)) h (cS hh);simpa using h1
def RlN (n k:Nat) (a b:List Gt):Prop:=cP a=cP b+k/\∀ V:List Zw,V.length=2 ^ n->aX a V=up k (aX b V)
theorem RlN.refl (n:Nat) (a:List Gt):RlN n 0 a a:=⟨rfl,fun V _=>(BU _).symm⟩
theorem RlN.trans {n k l:Nat} {a b c:List Gt} (h:RlN n k a b) (h':RlN n l b c):RlN n (k+l) a c:=by
 refine ⟨by rw [h.1,h'.1];omega,fun V hV=>?_⟩;rw [h.2 V hV,h'.2 V hV,gh]
theorem RlN.mid {n k:Nat} {a b p q:List Gt} (hp:∀ g ∈ p,bF n g=true) (hb:∀ g ∈ b,bF n g=true) (hq:∀ g ∈ q,bF n g=true) (h:RlN n k a b):RlN n k (p++(a++q)) (p++(b++q)):=by
 refine ⟨by rw [dE,dE,dE,dE,h.1];omega,fun V hV=>?_⟩;have l1:=(aI p hp).2.2 V hV;rw [cK,cK,cK,cK,h.2 _ l1,lQ (aI q hq) k ((aI b hb).2.2 _ l1)]
theorem La {n:Nat} {g h:Gt} (hg:bF n g=true) (hh:bF n h=true) (hm:jI g h=true):RlN n 0 [g,h] [h,g]:=by
 have hn:=dm hg;have h1:=(En hg hh).1;unfold K7 at h1;simp only [hm,Bool.not_true,Bool.false_or,List.all_eq_true] at h1;obtain ⟨a1,a2⟩:=Cx hg;obtain ⟨b1,b2⟩:=Cx hh;have c1:∀ s ∈ wX h,Cm n (kL (2 ^ n) (wX g)) (aX s.2):=fun s hs=>by
  have:=Cy (aI s.2 (b1 s hs)) (wX g) a1 fun t ht=>xi t.2 (a1 t ht) fun x hx=>by
   have:=xi (f:=dL x) s.2 (b1 s hs) fun y hy=>Ts hn (xg hg t ht x hx) (xg hh s hs y hy) (h1 t ht s hs x hx y hy)
   exact fun V hV=>(this V hV).symm
  exact fun V hV=>(this V hV).symm
 have c2:=Cy (gu _ a1) (wX h) b1 c1;refine ⟨by show hc g+(hc h+0)=hc h+(hc g+0)+0;omega,fun V hV=>?_⟩;rw [BU];show dL h (dL g V)=dL g (dL h V);have lg:=(aL hg).2.2 V hV;have lh:=(aL hh).2.2 V hV;have e1:up (sx h+sx g) (dL h (dL g V))=kL (2 ^ n) (wX h) (kL (2 ^ n) (wX g) V):=by
  rw [Nat.add_comm,<- gh,b2 _ lg,<- lQ (gu _ b1) _ lg,a2 V hV]
 have e2:up (sx h+sx g) (dL g (dL h V))=kL (2 ^ n) (wX g) (kL (2 ^ n) (wX h) V):=by
  rw [<- gh,a2 _ lh,<- lQ (gu _ a1) _ lh,b2 V hV]
 exact BV _ (e1.trans ((c2 V hV).symm.trans e2.symm))
theorem F7 {n:Nat} {g h:Gt} (hg:bF n g=true) (hh:bF n h=true) (hm:bK g h=true):(∀ x ∈ aU g h,bF n x=true)/\c3 (aU g h)<=c3 [g,h]/\∃ k,RlN n k [g,h] (aU g h):=by
 have h1:=(En hg hh).2;unfold K8 at h1;simp only [hm,Bool.not_true,Bool.false_or,Bool.and_eq_true,Bool.or_eq_true,List.all_eq_true,decide_eq_true_eq] at h1;obtain ⟨a1,a2,a3⟩:=h1;refine ⟨a1,a2,?_⟩;rcases a3 with ⟨b1,b2⟩ | ⟨⟨b1,b2,b3⟩,b4⟩
 ·rw [b2];refine ⟨2 * hc g,by show hc g+(hc h+0)=0+_;rw [b1,Cv];omega,fun V hV=>?_⟩;show dL h (dL g V)=_;rw [b1];exact qR hg hV
 ·refine ⟨0,by show hc g+(hc h+0)=_;omega,fun V hV=>?_⟩;rw [BU];have hs:=iA g h;refine fX (f:=fun V=>dL h (dL g V)) (h:=aX (aU g h)) ((aL hg).comp (aL hh)) (aI _ a1) (fun i hi=>?_) hV;have e:=b4 i (List.mem_range.2 hi);rw [xh hg hh hi,ta (List.isPerm_iff.1 e)];cases hl:aU g h with
  |nil=>show lX _ [_]=eN _ i;rw [oG];exact nQ _
  |cons x r =>
   rw [hl,List.length_cons] at hs;have hr:r=[]:=List.eq_nil_of_length_eq_zero zO;subst hr;exact (kJ (a1 x (by rw [hl];simp)) hi).symm
theorem fB {n:Nat} {x:Gt} (h:bF n x=true):∀ y ∈ [x],bF n y=true:=fun y hy=>by rw [List.mem_singleton.1 hy];exact h
theorem bE {n:Nat} {a b:List Gt} (ha:∀ y ∈ a,bF n y=true) (hb:∀ y ∈ b,bF n y=true):∀ y ∈ a++b,bF n y=true:=fun y hy=>(List.mem_append.1 hy).elim (ha y) (hb y)
theorem tn {n:Nat} {g:Gt} (hg:bF n g=true):∀ mid:List Gt,(∀ m ∈ mid,bF n m=true/\jI g m=true)->RlN n 0 (g :: mid) (mid++[g])
 |[],_=>RlN.refl n [g]
 |m :: r,h=>by
  obtain ⟨h1,h2⟩:=h m zI;have hr:∀ x ∈ r,bF n x=true:=fun x hx=>(h x dq).1
  have s1:=RlN.mid (p:=[]) (q:=r) (fun _ hx=>by simp at hx) (bE (fB h1) (fB hg)) hr (La hg h1 h2);have s2:=RlN.mid (p:=[m]) (q:=[]) (fB h1) (bE hr (fB hg)) (fun _ hx=>by simp at hx) (tn hg r (fun x hx=>h x dq));have:=RlN.trans s1 (by simpa using s2);simpa using this
theorem Lb {n:Nat} {l:List Gt} {i k:Nat} (hl:∀ g ∈ l,bF n g=true) (h:bf l 0=some (i,k)):(∀ g ∈ jZ l i k,bF n g=true)/\c3 (jZ l i k)<=c3 l/\∃ d,RlN n d l (jZ l i k):=by
 obtain ⟨pre,g,mid,h',post,e,hi,hk,hall,hm⟩:=lU h;rw [Nat.zero_add] at hi;subst hi hk;subst e;rw [zk];have o1:∀ x ∈ pre,bF n x=true:=fun x hx=>hl x dq
 have o2:bF n g=true:=hl g zI;have o3:∀ x ∈ mid,bF n x=true:=fun x hx=>hl x dq
 have o4:bF n h'=true:=hl h' zI;have o5:∀ x ∈ post,bF n x=true:=fun x hx=>hl x dq
 obtain ⟨m1,mc,d,m2⟩:=F7 o2 o4 hm;refine ⟨bE o1 (bE o3 (bE m1 o5)),?_,d,?_⟩
 ·have e1:c3 (g :: (mid++h' :: post))=c3 [g]+(c3 mid+(c3 [h']+c3 post)):=by
   rw [<- List.singleton_append,eE,eE,<- List.singleton_append (x:=h'),eE]
  have e2:c3 [g,h']=c3 [g]+c3 [h']:=eE [g] [h'];rw [eE,eE,eE,eE,e1];omega
 ·have s1:=RlN.mid (p:=pre) (q:=h' :: post) o1 (bE o3 (fB o2)) (bE (fB o4) o5) (tn o2 mid (fun x hx=>⟨o3 x hx,hall x hx⟩));have s2:=RlN.mid (p:=pre++mid) (q:=post) (bE o1 o3) m1 o5 m2;have e1:pre++(g :: mid++h' :: post)=pre++g :: (mid++h' :: post):=zI;have e2:pre++(mid++[g]++h' :: post)=pre++mid++([g,h']++post):=zI;have e3:pre++mid++(aU g h'++post)=pre++(mid++(aU g h'++post)):=zI;rw [e1,e2] at s1;rw [e3] at s2;have:=RlN.trans s1 s2;rwa [Nat.zero_add] at this
theorem uQ {n:Nat}:∀ (m:Nat) (l:List Gt),(∀ g ∈ l,bF n g=true)->(∀ g ∈ ib m l,bF n g=true)/\c3 (ib m l)<=c3 l/\∃ d,RlN n d l (ib m l)
 |0,l,h=>⟨h,zR,0,RlN.refl n l⟩
 |m+1,l,h=>by
  unfold ib;split
  ·rename_i hs;obtain ⟨i,k,hf⟩:∃ i k,bf l 0=some (i,k):=by
    unfold eR at hs;cases hf:bf l 0 with
    |none=>rw [hf] at hs;cases hs
    |some x=>exact ⟨x.1,x.2,rfl⟩
   have he:d9 l=jZ l i k:=by unfold d9;rw [hf]
   obtain ⟨v,c,d,r⟩:=Lb h hf;rw [<- he] at v r c;obtain ⟨v2,c2,d2,r2⟩:=uQ m (d9 l) v;exact ⟨v2,Nat.le_trans c2 c,d+d2,r.trans r2⟩
  ·exact ⟨h,zR,0,RlN.refl n l⟩
end Go.Proofs.YtmenmibfkojnoaaGreat
