/- Contract of FoldPhases (impl). -/
import Derived.Test.YtmenmibfkojnoaaGreatY30
set_option maxHeartbeats 16000000
set_option maxRecDepth 100000
namespace Go.Proofs.YtmenmibfkojnoaaGreat
open Go.RowKit
set_option linter.unusedVariables false
theorem BH {p:Prop} (h:p:=by first | rfl | (rw [HTC.out];simp [cG]) | simp):p:=h
theorem BI {p:Prop} (h:p:=by rw [<- HD.out];exact HCL.out):p:=h
theorem JZ {p:Prop} (h:p:=by
  go_wp2_with fail;refine (kR _ _ _).mono ?_;rintro e w5 ⟨A5,c5,rfl,o5,b5⟩;have O5:=zH o5;have S5:=zH (FI.below S4 b5);have G5:=zH (G4.below b5);have hs5:=S5.out.2.2.2.2.2.2.2.1.size;clear o5 b5 z0 z1 y0 y1 y2 y3 hy1
  go_wp2_with (at_builtin;refine ah rfl (.tmp 69) (.tmp 73) 24 rfl Tryz.underlying24 ak hz4 zD rfl S5.out.2.2.2.2.2.1 rfl (Rd.own O5.out) aQ zO zD zO ?_;intro A7 c7 w7 o7 g7;have G7:=zH (G5.grown g7 HNE.out);have S7:=zH (FI.app S5.out (acc':=acc++cG (cF (au M.t x) y) (a:Int)) g7 (by rw [HTC.out,av];exact o7));have ⟨s0,s1,s2,s3,t0,t1,t2,t3⟩:=S7.out.2.1.four;have ⟨y0,y1,y2,y3,_,_,_,_⟩:=G7.four)
  have ST:=S7;refine (nZ p.N p.H A2 p.t.length c2 p.t _ p.o.length d2 p.o ⟨gk',a,gb',gc'⟩ _ (RdP.own ST.out.2.2.2.1) (RdP.own ST.out.2.2.2.2.1) zO zO (ao ST.out.2.2.2.1)).mono ?_;rintro e w8 ⟨v,rfl,⟨A8,c8,B8,d8,rfl,t8,o8⟩,b8⟩;rw [show aJ ⟨p.N,p.H,p.t,p.o⟩ ⟨gk',a,gb',gc'⟩=(q,true) from HQ1.out] at t8 o8 ⊢
  dsimp only at t8 o8 ⊢
  have hs8:=ST.out.2.2.2.2.2.2.2.1.size;have S8:=zH (FI.below ST b8);obtain ⟨s0,s1,s2,s3,t0,t1,t2,t3⟩:=S8.out.2.1.four;have l8:=S8.out.2.1.lt;have S9:=zH (FI.poly S8 t8 o8 hs8);clear t8 o8;go_wp2_with fail;go_roundg (gk - 1)
  case measure=>omega
  case rel=>exact ⟨k+1,q,A8,c8,B8,d8,_,_,met++[x],_,_,acc++cG (cF (au M.t x) y) (a:Int),zO,by go_num,BH,by rw [<- HFL.out,HD.out,pu HU.out HXY.out HMT.out HQ1.out],HC1.out,zO,zO,by have h1:=jU (cF (au M.t x) y) (a:Int);have h2:=fS (cF (au M.t x) y);rw [List.length_append];omega,by rw [List.length_append,List.length_singleton];omega,S9.out⟩):p:=h
theorem Od (A:Option Addr) (n cap:Nat) (gs:List Gt) (N:Int) (w:World) (h:RdG w A n gs) (hn:n<=1073741824) :
  Calls Tryz.prog 42 #[.slice A n cap,N] w (DI (dh gs N) w):=by
 have H:=zH h;have HL:=zH h.1;clear h;obtain ⟨⟨M,mb⟩,hM⟩:∃ R,cE gs N=R:=⟨_,rfl⟩;have HM:=zH hM;have hbd:=yR gs N;rw [hM,HL.out] at hbd;obtain ⟨hb1,hb2⟩:M.t.length<=n/\M.o.length<=4:=hbd;cases mb
 ·have HF:=zH (sy (gs:=gs) (n:=N) (by rw [hM]));clear hM;rw [HF.out];go_enter Tryz.func42,Tryz.ntmps42;go_wp2_with fail;refine (vY _ _ _ gs N _ H zO).mono ?_;rintro e w1 ⟨v,rfl,⟨A1,c1,B1,d1,rfl,t1,o1⟩,b1⟩;rw [HM.out] at t1 o1 ⊢
  dsimp only at t1 o1 ⊢
  have BX:=zH (b1.alloc b1.size (.cells #[M.N,M.H,.slice A1 M.t.length c1,.slice B1 M.o.length d1] 88));go_wp2_with fail;refine (dB _ _ _ _ _ (H.below BX) zO).mono ?_;rintro e w2 ⟨A2,c2,rfl,o2,b2⟩;go_wp2_with fail;go_ret2;have hl:=HL.out;subst hl;exact ⟨A2,c2,rfl,ae o2 BX.size,aa BX b2⟩
 ·have HF:=zH (pq (gs:=gs) (n:=N) (by rw [hM]));obtain ⟨hin,hcl⟩:=n7 hM;obtain ⟨i1,i2⟩:=DH hin;have I1:=zH i1;clear i1;have HC:=zH hcl;clear hM hin hcl;rw [HF.out,HM.out]
  dsimp only
  have hOl:=iN M.t gs (cg N) [] [];rw [HL.out,List.length_nil,Nat.zero_add] at hOl;obtain ⟨OUT,hO⟩:∃ O,dI M.t (cg N) [] [] gs=O:=⟨_,rfl⟩;rw [hO] at hOl ⊢;have HO:=zH hO;clear hO;obtain ⟨Q,hQ⟩:∃ Q,cE OUT N=Q:=⟨_,rfl⟩;rw [hQ];have HQ:=zH hQ;clear hQ;go_enter Tryz.func42,Tryz.ntmps42;go_wp2_with fail;refine (vY _ _ _ gs N _ H zO).mono ?_;rintro e w1 ⟨v,rfl,⟨A1,c1,B1,d1,rfl,t1,o1⟩,b1⟩;rw [HM.out] at t1 o1 ⊢
  dsimp only at t1 o1 ⊢
  have hs1:=b1.size;have hmk:=run_makeMap_plain (P:=Tryz.prog) (w:=(w1.alloc (.cells #[M.N,M.H,.slice A1 M.t.length c1,.slice B1 M.o.length d1] 88)).alloc (.cells #[] 39)) 78;obtain ⟨w3,hw3⟩:∃ w3,w3=((w1.alloc (.cells #[M.N,M.H,.slice A1 M.t.length c1,.slice B1 M.o.length d1] 88)).alloc (.cells #[] 39)).alloc (.map #[] 0):=⟨_,rfl⟩;have X6:=zH (show Bx w3 w1 88 #[M.N,M.H,.slice A1 M.t.length c1,.slice B1 M.o.length d1] from hw3 ▸ ((Bx.new w1 _ _).alloc _).alloc _);have T1:=zH (show w3.ownsRow w 128 2 (.slice A1 M.t.length c1) M.t.length (aj M.t) from hw3 ▸ ((t1.alloc _).alloc _).alloc _);have B3:=zH (show Below w w w3 from hw3 ▸ ((b1.alloc zO _).alloc zS _).alloc zS _);have OG:=zH (show w3.ownsRow w 39 4 (.slice (some ⟨w1.heap.size+1,0,none⟩) 0 0) 0 (af []) from hw3 ▸ (kz zO (Bx.new' zI)).alloc _)
  have MP:=zH (show w3.heap[w1.heap.size+1+1]? = some (.map #[] 0) from by rw [hw3];have:=heap_alloc_new ((w1.alloc (.cells #[M.N,M.H,.slice A1 M.t.length c1,.slice B1 M.o.length d1] 88)).alloc (.cells #[] 39)) (.map #[] 0);simpa using this);go_wp2_with fail;rw [<- hw3];clear hw3 t1 o1 b1 hmk;refine (P7 _ _).mono ?_;rintro e w4 ⟨v,rfl,⟨A4,c4,B4,d4,rfl,t4,o4⟩,b4⟩;have hs3:=B3.size;have l6:=(X6.below b4).lt;have hw1:w.heap.size<=w4.heap.size:=(aa B3.out b4).size
  have ST:=zH (show FI w1.heap.size w4.heap.size M A1 c1 B1 d1 w (cg N) A4 c4 B4 d4 (w1.heap.size+1+1) #[] 0 [] (some ⟨w1.heap.size+1,0,none⟩) 0 [] (w4.alloc (.cells #[.int .i64 (cg N).N,.int .i64 (cg N).H,.slice A4 (cg N).t.length c4,.slice B4 (cg N).o.length d4] 88)) from ⟨(X6.below b4).alloc _,Bx.new _ _ _,(ab T1.out b4).alloc _,(ae t4 hs3).alloc _,(ae o4 hs3).alloc _,(ab OG.out b4).alloc _,⟨rg (rh MP.out b4),by simp [EntsI],zO⟩,(aa B3.out b4).alloc hw1 _,hw1,zO⟩);clear t4 o4 b4 X6 T1 B3 OG MP;go_wp2_with fail;generalize cg N=p0 at HC HO I1 i2 ST ⊢;generalize hg6:w1.heap.size=g6 at ST l6 ⊢;generalize hg10:w4.heap.size=g10 at ST l6 hw1 ⊢;clear hs1 hs3 hg6 hg10;obtain ⟨w5,hw5⟩:∃ w5,w5=w4.alloc (.cells #[p0.N,p0.H,.slice A4 p0.t.length c4,.slice B4 p0.o.length d4] 88):=⟨_,rfl⟩;rw [<- hw5] at ST ⊢;clear hw5
  go_loopg [8,33] n (fun r s i wr=>∃ (k:Nat) (p:Po) (A2:Option Addr) (c2:Nat) (B2:Option Addr) (d2:Nat) (es:Array MapEntry) (ck:Nat) (met:List Int) (A3:Option Addr) (c3:Nat) (acc:List Gt),k+r=n/\i=.int .i64 k/\s=.slice A3 acc.length c3/\dI M.t p met acc (gs.drop k)=OUT/\(cp p (gs.drop k)).2=true/\p.t.length<=k/\p.o.length<=4/\acc.length<=2 * k/\met.length<=k/\FI g6 g10 M A1 c1 B1 d1 w p A2 c2 B2 d2 (g6+1+1) es ck met A3 c3 acc wr)
  case atStart=>exact ⟨0,p0,A4,c4,B4,d4,#[],0,[],_,0,[],zO,rfl,rfl,HO.out,by rw [List.drop_zero,HC.out],by have:=I1.out;omega,i2,zI,zI,ST.out⟩
  case round =>
   clear ST HC HO I1 i2 l6;obtain ⟨k,p,A2,c2,B2,d2,es,ck,met,A3,c3,acc,hk,rfl,rfl,hf,hcl,htl,hol,hal,hml,hst⟩:=hrel;have HFL:=zH hf;have HCL:=zH hcl;have ST:=zH hst;clear hf hcl hst;by_cases hlt:k < n
   ·have HB:=zH ST.out.2.2.2.2.2.2.2.1;have hbs:=HB.size;have h10:=ST.out.2.2.2.2.2.2.2.2.1;obtain ⟨bb,off,g,rfl,hBb,hd,c0,c1',c2',c3'⟩:=(H.below HB.out).at_ hlt;have HD:=zH hd;clear hd;have hkI:(k:Int) < (n:Int):=zO;have hk0:(0:Int)<=(k:Int):=zO;have hfit:=uy (p:=p) (g:=g) (r:=gs.drop (k+1)) BI;have hap:=(i7 (p:=p) (g:=g) (r:=gs.drop (k+1)) BI).1;obtain ⟨gk',ga',gb',gc'⟩:=g
    dsimp only at c0 c1' c2' c3' hfit
    obtain ⟨a,rfl⟩:∃ a:Nat,ga'=a:=⟨ga'.toNat,zO⟩;obtain ⟨q,hq⟩:∃ q,aJ p ⟨gk',a,gb',gc'⟩=(q,true):=⟨_,Prod.ext rfl hap⟩;have hbd:=iM p ⟨gk',a,gb',gc'⟩;rw [hq] at hbd;have hq1:q.t.length<=p.t.length+1:=hbd.1;have hq2:q.o.length<=p.o.length:=hbd.2.1;have HQ1:=zH hq;have HC1:=zH (sA BI hq);obtain ⟨ha0,ha1,ha2⟩:=hfit;have haN:a < p.o.length:=zO;have haI:(a:Int) < (p.o.length:Int):=zO;have ha0':(0:Int)<=(a:Int):=zO;obtain ⟨gB,hB2,hgB1,hgB2,u0,u1,_,_⟩:=eY ST.out.2.2.2.2.1 haN;subst hB2;obtain ⟨⟨x,y⟩,hxy⟩:∃ z,p.o.getD a (0,0)=z:=⟨_,rfl⟩;rw [hxy] at u0 u1
    dsimp only at u0 u1
    have HXY:Hid (dg p.o (a:Int)=(x,y)):=zH (by show p.o.getD (Int.toNat a) _=_;rw [Int.toNat_natCast];exact hxy);clear hap hq hbd hxy ha0 ha1 ha2;have lg6:=ST.out.1.lt;have lg10:=ST.out.2.1.lt;obtain ⟨s0,s1,s2,s3,t0,t1,t2,t3⟩:=ST.out.2.1.four;have hz4:(Value.agg #[(0:Int),(0:Int),(0:Int),(0:Int)]).cells.size=4:=rfl;cases hu:(al gk' == 0)
    rotate_left
    ·have HU:=zH hu;go_wp2_with fail;refine (bt _ _).mono ?_;rintro e w' ⟨rfl,rfl⟩;have SA:=zH (FI.alloc (FI.alloc ST (.cells #[gk',a,gb',gc'] 39)) (.cells #[gk',a,gb',gc'] 39));have GX:=zH ((Bx.new wr 39 #[gk',a,gb',gc']).alloc (.cells #[gk',a,gb',gc'] 39));have RL:=Rd.lit (wr.alloc (.cells #[gk',a,gb',gc'] 39)) 39 #[gk',a,gb',gc'] 1 4 rfl;rw [World.size_alloc] at RL;have RL2:=zH RL;clear RL
     go_wp2_with (at_builtin;refine ah rfl (.tmp 41) (.tmp 43) 24 rfl Tryz.underlying24 ak hz4 zD rfl SA.out.2.2.2.2.2.1 rfl RL2.out zV zO zD zS ?_;intro A7 c7 w7 o7 g7;have G7:=zH (GX.grown g7 (nm ST.out.2.2.2.2.2.1));have S7:=zH (FI.app SA.out (acc':=acc++[⟨gk',a,gb',gc'⟩]) g7 (by rw [av];exact o7));have ⟨s0,s1,s2,s3,t0,t1,t2,t3⟩:=S7.out.2.1.four;have ⟨y0,y1,y2,y3,_,_,_,_⟩:=G7.four)
     have ST:=S7;refine (nZ p.N p.H A2 p.t.length c2 p.t _ p.o.length d2 p.o ⟨gk',a,gb',gc'⟩ _ (RdP.own ST.out.2.2.2.1) (RdP.own ST.out.2.2.2.2.1) zO zO (ao ST.out.2.2.2.1)).mono ?_;rintro e w8 ⟨v,rfl,⟨A8,c8,B8,d8,rfl,t8,o8⟩,b8⟩;rw [show aJ ⟨p.N,p.H,p.t,p.o⟩ ⟨gk',a,gb',gc'⟩=(q,true) from HQ1.out] at t8 o8 ⊢
     dsimp only at t8 o8 ⊢
     have hs8:=ST.out.2.2.2.2.2.2.2.1.size;have S8:=zH (FI.below ST b8);obtain ⟨s0,s1,s2,s3,t0,t1,t2,t3⟩:=S8.out.2.1.four;have l8:=S8.out.2.1.lt;have S9:=zH (FI.poly S8 t8 o8 hs8);clear t8 o8;go_wp2_with fail;go_roundg (gk - 1)
     case measure=>omega
     case rel=>exact ⟨k+1,q,A8,c8,B8,d8,_,_,met,_,_,acc++[⟨gk',a,gb',gc'⟩],zO,by go_num,BH,by rw [<- HFL.out,HD.out,vZ HU.out HQ1.out],HC1.out,zO,zO,by have:=hal;simp;omega,zO,S9.out⟩
    ·have HU:=zH hu;have S2:=zH (FI.alloc (FI.alloc ST (.cells #[gk',a,gb',gc'] 39)) (.cells #[x,y] 93));have G2:=zH ((Bx.new wr 39 #[gk',a,gb',gc']).alloc (.cells #[x,y] 93));have V2:=zH (Bx.new (wr.alloc (.cells #[gk',a,gb',gc'] 39)) 93 #[x,y]);obtain ⟨W2,hW2⟩:∃ W2,W2=(wr.alloc (.cells #[gk',a,gb',gc'] 39)).alloc (.cells #[x,y] 93):=⟨_,rfl⟩;rw [<- hW2] at S2 G2 V2;have HW2:=zH hW2;clear hW2;have hgs:(wr.alloc (.cells #[gk',a,gb',gc'] 39)).heap.size=wr.heap.size+1:=zI;rw [hgs] at V2;clear hgs;cases hm:met.any (· == x)
     ·have HMT:=zH hm;have hl:=ix (g6+1+1) ck x es met W2 S2.out.2.2.2.2.2.2.1.1 S2.out.2.2.2.2.2.2.1.2.1;rw [hm] at hl;obtain ⟨W3,hW3⟩:∃ W3,W3=({ W2 with heap:=W2.heap.setIfInBounds (g6+1+1) (.map (es.push { key:=.int .i64 x,val:=.bool true,born:=ck }) (ck+1)) }:World):=⟨_,rfl⟩;have hu2:=nA (g6+1+1) ck x es met W2 S2.out.2.2.2.2.2.2.1.1 S2.out.2.2.2.2.2.2.1.2.1 hm;rw [<- hW3] at hu2;have S3:=zH (FI.upd S2 x);have G3:=zH (G2.setObjI (r:=g6+1+1) (fO G2 S2.out.2.2.2.2.2.2.1.1) (.map (es.push { key:=.int .i64 x,val:=.bool true,born:=ck }) (ck+1)));have V3:=zH (V2.setObjI (r:=g6+1+1) (fO V2 S2.out.2.2.2.2.2.2.1.1) (.map (es.push { key:=.int .i64 x,val:=.bool true,born:=ck }) (ck+1)));rw [<- hW3] at S3 G3 V3;clear hW3;clear hm;go_upto_region 12 with (go_at_call 79;refine (bt _ _).mono ?_;rintro e w' ⟨rfl,rfl⟩)
      go_upto_region 13 with fail
      rw [<- HW2.out];obtain ⟨z0,z1,_,_⟩:=V2.two;obtain ⟨y0,y1,y2,y3,_,_,_,_⟩:=G2.four;obtain ⟨r0,r1,r2,r3,_,_,_,_⟩:=S3.out.1.four;obtain ⟨z0',z1',_,_⟩:=V3.two;obtain ⟨y0',y1',y2',y3',_,_,_,_⟩:=G3.four;obtain ⟨cv,hcv⟩:∃ c,au M.t x=c:=⟨_,rfl⟩;have HCV:=zH hcv;have HNE:=zH (nm ST.out.2.2.2.2.2.1);go_wp2_with fail;refine (Sz _ _ _ _ _ _ _ _ M.t x _ (RdP.own S3.out.2.2.1) zO).mono ?_;rintro e w4 ⟨rfl,bk⟩;rw [hcv];clear hcv z0 z1 y0 y1 y2 y3 z0' z1' y0' y1' y2' y3' r0 r1 r2 r3 hl hu2;have S4:=zH (FI.below S3 bk);have G4:=zH (G3.below bk);have V4:=zH (V3.below bk);obtain ⟨z0,z1,_,_⟩:=V4.two;obtain ⟨y0,y1,y2,y3,_,_,_,_⟩:=G4.four;clear bk S2 G2 V2 S3 G3 V3;cases hy1:(y == 1)
      ·have HY1:=zH hy1;have HTC:Hid (cF (au M.t x) y=cv):=zH (by rw [HCV.out];exact DG hy1);obtain ⟨cc,hcc⟩:∃ c,cv=c:=⟨_,rfl⟩;subst hcc;have hrk:=fS cv;exact JZ
      ·have HY1:=zH hy1;have HTC:Hid (cF (au M.t x) y=((-cv) % 8)):=zH (by rw [HCV.out];exact DF hy1);go_wp2_with fail;refine (m6 _ _).mono ?_;rintro e w' ⟨rfl,rfl⟩;rw [fd];obtain ⟨cc,hcc⟩:∃ c,((-cv) % 8)=c:=⟨_,rfl⟩;rw [hcc] at HTC ⊢;clear hcc;have hrk:=fS cc;exact JZ
     ·have HMT:=zH hm;have hl:=ix (g6+1+1) ck x es met W2 S2.out.2.2.2.2.2.2.1.1 S2.out.2.2.2.2.2.2.1.2.1;rw [hm] at hl;clear hm;go_upto_region 12 with (go_at_call 79;refine (bt _ _).mono ?_;rintro e w' ⟨rfl,rfl⟩)
      go_upto_region 13 with fail
      rw [<- HW2.out];obtain ⟨z0,z1,_,_⟩:=V2.two;obtain ⟨y0,y1,y2,y3,_,_,_,_⟩:=G2.four;obtain ⟨r0,r1,r2,r3,_,_,_,_⟩:=S2.out.2.1.four;go_wp2_with fail;have ST:=S2;refine (nZ p.N p.H A2 p.t.length c2 p.t _ p.o.length d2 p.o ⟨gk',a,gb',gc'⟩ _ (RdP.own ST.out.2.2.2.1) (RdP.own ST.out.2.2.2.2.1) zO zO (ao ST.out.2.2.2.1)).mono ?_;rintro e w8 ⟨v,rfl,⟨A8,c8,B8,d8,rfl,t8,o8⟩,b8⟩;rw [show aJ ⟨p.N,p.H,p.t,p.o⟩ ⟨gk',a,gb',gc'⟩=(q,true) from HQ1.out] at t8 o8 ⊢
      dsimp only at t8 o8 ⊢
      have hs8:=ST.out.2.2.2.2.2.2.2.1.size;have S8:=zH (FI.below ST b8);obtain ⟨s0,s1,s2,s3,t0,t1,t2,t3⟩:=S8.out.2.1.four;have l8:=S8.out.2.1.lt;have S9:=zH (FI.poly S8 t8 o8 hs8);clear t8 o8;go_wp2_with fail;go_roundg (gk - 1)
      case measure=>omega
      case rel=>exact ⟨k+1,q,A8,c8,B8,d8,_,_,met,_,_,acc,zO,by go_num,BH,by rw [<- HFL.out,HD.out,pt HU.out HXY.out HMT.out HQ1.out],HC1.out,zO,zO,zO,zO,S9.out⟩
   ·have hkn:k=n:=zO;have hE:acc=OUT:=by have e:=HFL.out;rw [List.drop_eq_nil_of_le (by have:=HL.out;omega)] at e;exact e
    subst hE;clear HFL HCL hkn;have GA:=zH ST.out.2.2.2.2.2.1;go_wp2_with fail;refine (vY _ _ _ acc N _ (RdG.own GA) zO).mono ?_;rintro e w8 ⟨v,rfl,⟨A8,c8,B8,d8,rfl,t8,o8⟩,b8⟩;rw [HQ.out] at t8 o8 ⊢;have S8:=zH (FI.below ST b8);obtain ⟨r0,r1,r2,r3,_,_,_,_⟩:=S8.out.1.four;have l8:=S8.out.1.lt;have hb8:=S8.out.2.2.2.2.2.2.2.1.size;clear t8 o8 b8;go_wp2_with fail;refine (m6 _ _).mono ?_;rintro e w' ⟨rfl,rfl⟩;rw [fd];go_wp2_with fail;go_ret2;exact ⟨A3,c3,rfl,S8.out.2.2.2.2.2.1.alloc _,S8.out.2.2.2.2.2.2.2.1.alloc hb8 _⟩
def ph (k:Int):Bool:=k == 1 || (k == 9 || (k == 11 || (al k != 0)))
def dJ (acc:List (List Gt)) (g:Gt):List (List Gt):=acc.set (acc.length - 1) (acc.getD (acc.length - 1) []++[g])
def it:Bool->List (List Gt)->List Gt->List (List Gt)
 |_,acc,[]=>acc
 |o,acc,g :: r=>if (o && ph g.k)=true then it (ph g.k) (dJ acc g) r else it (ph g.k) (acc++[[g]]) r
def np (gs:List Gt):List (List Gt):=it false [] gs
theorem yZ {o:Bool} {acc:List (List Gt)} {g:Gt} {r:List Gt} (h1:o=true) (h2:ph g.k=true):it o acc (g :: r)=it true (dJ acc g) r:=by rw [it,h1,h2];rfl
theorem y6 {o:Bool} {acc:List (List Gt)} {g:Gt} {r:List Gt} (h:o=false\/ph g.k=false):it o acc (g :: r)=it (ph g.k) (acc++[[g]]) r:=by
 rw [it,if_neg];rcases h with h | h<;>rw [h]<;>simp
def Qe (l:List (List Gt)) (w:World) (e:Ending) (w':World):Prop :=
 ∃ A c,e=.returned (.slice A l.length c)/\OwnSS af w' w.heap.size 24 39 4 (.slice A l.length c) l/\Below w w w'
theorem kf:(Tryz.prog.info? 24).map (fun i=>(i.zero,i.size,i.bytes))=some (some (.slice none 0 0),1,24):=zK
theorem J0 (k:Int):(al k != 0)=decide (0 < al k):=by
 have:=ft k;by_cases h:al k=0
 ·rw [h];rfl
 ·have:0 < al k:=zO;simp [h,this]
theorem y7 {acc:List (List Gt)} (g:Gt) (h:0 < acc.length):(dJ acc g).length=acc.length/\∀ b,(∀ x ∈ acc,x.length<=b)->∀ x ∈ dJ acc g,x.length<=b+1:=by
 refine ⟨by simp [dJ],fun b hb x hx=>?_⟩;unfold dJ at hx;rcases List.mem_or_eq_of_mem_set hx with h1 | h1
 ·have:=hb x h1;omega
 ·rw [h1,List.length_append,List.length_singleton];rw [List.getD_eq_getElem?_getD,List.getElem?_eq_getElem zO,Option.getD_some];have:=hb _ (List.getElem_mem (by omega:acc.length - 1 < acc.length));omega
theorem uG {w:World} {b1 b2:Nat} {e:TypeId} {sz n:Nat} {v:Value} {xs ys:List Value} (h1:w.ownsRow b1 e sz v n xs) (h2:w.ownsRow b2 e sz v n ys):xs=ys:=by
 have l1:=h1.1;have l2:=h2.1;rcases h1.2 with ⟨rfl,rfl⟩ | ⟨g,cap,cur,rfl,_,hh,_,_,_,ht⟩
 ·rw [List.eq_nil_of_length_eq_zero (by omega:xs.length=0),List.eq_nil_of_length_eq_zero (by omega:ys.length=0)]
 ·rcases h2.2 with ⟨h3,_⟩ | ⟨g',cap',cur',h3,_,hh',_,_,_,ht'⟩
  ·simp at h3
  ·simp only [Value.slice.injEq,Option.some.injEq,Addr.mk.injEq,and_true,true_and] at h3;obtain ⟨rfl,rfl⟩:=h3;rw [hh] at hh';injection hh' with hh'
   injection hh' with hc _
   subst hc;rw [<- ht,<- ht']
theorem J1 {p:Prop} (h:p:=by
  go_wp2_with fail;go_ret;exact ⟨rfl,(zW).alloc zR _⟩):p:=h
theorem BJ {p:Prop} (h:p:=by
  go_enter Tryz.func76,Tryz.ntmps76;exact J1):p:=h
theorem sN (k a b c:Int) (w:World):Calls Tryz.prog 76 #[.agg #[k,a,b,c]] w fun e w'=>e=.returned (.bool (ph k))/\Below w w w':=by
 by_cases h1:k=1
 ·subst h1;exact BJ
 ·have e1:(k == 1)=false:=by simpa using h1
  by_cases h2:k=9
  ·subst h2;exact BJ
  ·have e2:(k == 9)=false:=by simpa using h2
   by_cases h3:k=11
   ·subst h3;exact BJ
   ·have e3:(k == 11)=false:=by simpa using h3
    have HP:Hid (ph k=(al k != 0)):=zH (by unfold ph;rw [e1,e2,e3];rfl);clear h1 h2 h3;go_enter Tryz.func76,Tryz.ntmps76;go_wp2_with fail;refine (bt _ _).mono ?_;rintro e w1 ⟨rfl,rfl⟩;go_wp2_with fail;go_ret;exact ⟨aw (by rw [HP.out]),(zW).alloc zR _⟩
theorem BK {p:Prop} (h:p:=by
  go_enter Tryz.func98,Tryz.ntmps98;exact J1):p:=h
theorem sP (k a b c:Int) (w:World):Calls Tryz.prog 98 #[.agg #[k,a,b,c]] w fun e w'=>e=.returned (.bool (ph k))/\Below w w w':=by
 by_cases h1:k=1
 ·subst h1;exact BK
 ·have e1:(k == 1)=false:=by simpa using h1
  by_cases h2:k=9
  ·subst h2;exact BK
  ·have e2:(k == 9)=false:=by simpa using h2
   by_cases h3:k=11
   ·subst h3;exact BK
   ·have e3:(k == 11)=false:=by simpa using h3
    have HP:Hid (ph k=(al k != 0)):=zH (by unfold ph;rw [e1,e2,e3];rfl);clear h1 h2 h3;go_enter Tryz.func98,Tryz.ntmps98;go_wp2_with fail;refine (aT _ _).mono ?_;rintro e w1 ⟨rfl,rfl⟩;go_wp2_with fail;go_ret;exact ⟨aw (by rw [HP.out];first | exact (J0 k).symm | simp [J0]),(zW).alloc zR _⟩
theorem BM {p:Prop} (h:p:=by
  go_roundg (gk - 1)
  case measure=>omega
  case rel=>exact ⟨k+1,ph g.k,l',A0',q+1,c0',zO,by go_num,rfl,f1,f2,f3,f4,f5,f6,f7,f8,f9⟩):p:=h
theorem qw (A:Option Addr) (n cap:Nat) (gs:List Gt) (w:World) (h:RdG w A n gs) (hn:n<=1073741824):Calls Tryz.prog 41 #[.slice A n cap] w (Qe (np gs) w):=by
 have H:=zH h;clear h;obtain ⟨R,hR⟩:∃ R,np gs=R:=⟨_,rfl⟩;have HR:Hid (it false [] gs=R):=zH hR;rw [hR];clear hR;go_enter Tryz.func41,Tryz.ntmps41;go_wp2_with fail;go_loopg [3,9] n (fun r v i wr=>∃ (k:Nat) (o:Bool) (l:List (List Gt)) (A0:Option Addr) (q c0:Nat),k+r=n/\i=.int .i64 k/\v=.slice A0 q c0/\l.length=q/\q<=k/\(0 < k->0 < q)/\(o=true->0 < k)/\(0 < k->∀ g',gs[k - 1]? = some g'->o=ph g'.k)/\(∀ x ∈ l,x.length<=k)/\it o l (gs.drop k)=R/\OwnSS af wr w.heap.size 24 39 4 (.slice A0 q c0) l/\Below w w wr)
 case atStart=>exact ⟨0,false,[],_,0,0,zO,rfl,rfl,rfl,zO,(fun h=>absurd h zO),(fun h=>by cases h),(fun h=>absurd h zO),(fun x hx=>by simp at hx),HR.out,OwnSS.lit0 w zR _ _ _ _,(zW).alloc zR _⟩
 case round =>
  clear HR;obtain ⟨k,o,l,A0,q,c0,hk,rfl,rfl,hl,hqk,hq0,ho0,hop,hrow,hq,ow,hb⟩:=hrel;have HL:=zH hl;have HO0:=zH ho0;have HOP:=zH hop;have HROW:=zH hrow;have HQ:=zH hq;have OW:=zH ow;have HQ0:=zH hq0;clear hl ho0 hop hrow hq ow hq0;have hs0:=hb.size;by_cases hlt:k < n
  ·obtain ⟨bg,fg,g,hA,hBg,hd,q0,q1,q2,q3⟩:=(H.below hb).at_ hlt;subst hA;have HD:=zH hd;clear hd;have HGK:Hid (gs[k]? = some g):=zH (by have:=congrArg (fun r=>r[0]?) HD.out;simpa using this);have B0:=zH (show Below w w (wr.alloc g) from hb.alloc hs0 _);have X0:=zH (Bx.new wr 39 #[g.k,g.a,g.b,g.c]);have O0:=zH (OW.alloc g);have hkI:(k:Int) < (n:Int):=zO
   have NEW:Hid (∀ (wx w5:World) (A5:Option Addr) (c5:Nat) (vs0:List Value),OwnSS af wx w.heap.size 24 39 4 (.slice A0 q c0) l->wx.ownsRow w 24 1 (.slice A0 q c0) q vs0->Below w w wx->w5.ownsRow w 24 1 (.slice A5 (q+1) c5) (q+1) (vs0++[.slice (some ⟨wx,0,none⟩) 1 1])->((wx.alloc g).alloc (.cells #[.slice (some ⟨wx,0,none⟩) 1 1] 24)).grownBy w5 (Value.slice A0 q c0).ownBlock->(o=false\/ph g.k=false)->(∃ (k':Nat) (o':Bool) (l':List (List Gt)) (A0':Option Addr) (q' c0':Nat),k'=k+1/\o'=ph g.k/\q'=q+1/\A0'=A5/\c0'=c5/\l'.length=q'/\q'<=k'/\(0 < k'->0 < q')/\(o'=true->0 < k')/\(0 < k'->∀ g',gs[k' - 1]? = some g'->o'=ph g'.k)/\(∀ x ∈ l',x.length<=k')/\it o' l' (gs.drop k')=R/\OwnSS af w5 w.heap.size 24 39 4 (.slice A0' q' c0') l'/\Below w w w5)):=zH (by
    intro wx w5 A5 c5 vs0 hO hD hB h5 g5 hcnd;have hsx:=hB.size;have hne:(24:Nat) ≠ 39:=zD;have b1:Below wx wx ((wx.alloc g).alloc (.cells #[.slice (some ⟨wx,0,none⟩) 1 1] 24)):=((zW).alloc zR _).alloc zI _;refine ⟨k+1,ph g.k,l++[[g]],A5,q+1,c5,rfl,rfl,rfl,rfl,rfl,by rw [List.length_append,HL.out];rfl,zO,fun _=>by omega,fun _=>by omega,fun _ g' hg'=>?_,fun x hx=>?_,?_,?_,?_⟩
    ·rw [show k+1 - 1=k from by omega,HGK.out] at hg';injection hg' with hg'
     rw [hg']
    ·rcases List.mem_append.1 hx with hx | hx
     ·have:=HROW.out x hx;omega
     ·simp at hx;subst hx;simp
    ·rw [<- HQ.out,HD.out,y6 hcnd]
    ·have hap:=OwnSS.app (cs:=af) (B:=wx.heap.size) (w0:=wx) (w1:=(wx.alloc g).alloc (.cells #[.slice (some ⟨wx,0,none⟩) 1 1] 24)) (w2:=w5) (l:=l) (l':=[[g]]) (vs':=[.slice (some ⟨wx,0,none⟩) 1 1]) (v'':=.slice A5 (q+1) c5) hne hO zR hsx b1
      (fun j x hj=>by
       have h0:j=0:=by have:=(List.getElem?_eq_some_iff.1 hj).1;simp at this;omega
       subst h0;simp at hj;subst hj;exact ⟨_,1,rfl,(World.ownsRow_lit (e:=39) (size:=4) wx #[g.k,g.a,g.b,g.c] 1 zR zM rfl).alloc _⟩)
      (fun i j u u' hij hu hu'=>by
       have h1:=(List.getElem?_eq_some_iff.1 hu).1;have h2:=(List.getElem?_eq_some_iff.1 hu').1;simp at h1 h2;omega)
      rfl g5 (fun vs hv=>by rw [HL.out] at hv ⊢;rw [uG hv ((hD.alloc _).alloc _)];exact h5)
     exact hap
    ·exact ag ((hB.alloc hsx _).alloc zS _) zS ((hD.alloc _).alloc _) zR g5)
   have EXT:Hid (∀ (wx w5:World) (go:Nat) (x:List Gt) (D D':Option Addr) (c c':Nat),A0=some ⟨go,0,none⟩->OwnSS af wx w.heap.size 24 39 4 (.slice A0 q c0) l->l[q - 1]? = some x->wx.cell? ⟨go,q - 1,none⟩=some (.slice D x.length c)->wx.ownsRow w 39 4 (.slice D x.length c) x.length (af x)->Below w w wx->w5.ownsRow w 39 4 (.slice D' (x.length+1) c') (x.length+1) (af x++g.cells)->wx.grownBy w5 (Value.slice D x.length c).ownBlock->((Value.slice D' (x.length+1) c').ownBlock=(Value.slice D x.length c).ownBlock\/∀ b,(Value.slice D' (x.length+1) c').ownBlock=some b->wx.heap.size<=b)->o=true->ph g.k=true->(∃ (k':Nat) (o':Bool) (l':List (List Gt)),k'=k+1/\o'=true/\l'.length=q/\q<=k'/\(0 < k'->0 < q)/\(o'=true->0 < k')/\(0 < k'->∀ g',gs[k' - 1]? = some g'->o'=ph g'.k)/\(∀ x ∈ l',x.length<=k')/\it o' l' (gs.drop k')=R/\OwnSS af (w5.setCell ⟨go,q - 1,none⟩ (.slice D' (x.length+1) c')) w.heap.size 24 39 4 (.slice A0 q c0) l'/\Below w w (w5.setCell ⟨go,q - 1,none⟩ (.slice D' (x.length+1) c')))):=zH (by
    intro wx w5 go x D D' c c' hA0 hO hx hcell hown hB h5 g5 hbb ho hph;subst hA0;have hq0:0 < q:=HQ0.out (HO0.out ho);have hadd:dJ l g=l.set (q - 1) (x++[g]):=by unfold dJ;rw [HL.out,List.getD_eq_getElem?_getD,hx,Option.getD_some]
    obtain ⟨t1,t2⟩:=y7 (acc:=l) g (by rw [HL.out];exact hq0);have hxl:(x++[g]).length=x.length+1:=zI;have hext:=OwnSS.ext (cs:=af) (w1:=w5) (c':=c') (D':=D') (y:=x++[g]) zD hO hx hcell g5 (by rw [hxl,av];exact h5) (by rw [hxl];exact hbb);rw [hxl,<- hadd] at hext;obtain ⟨vs,a1,_⟩:=hO;refine ⟨k+1,true,dJ l g,rfl,rfl,by rw [t1,HL.out],zO,fun _=>hq0,fun _=>by omega,fun _ g' hg'=>?_,fun y hy=>?_,?_,hext,?_⟩
    ·rw [show k+1 - 1=k from by omega,HGK.out] at hg';injection hg' with hg'
     rw [<- hg',hph]
    ·have:=t2 k HROW.out y hy;omega
    ·rw [<- HQ.out,HD.out,yZ ho hph]
    ·exact (ag hB hB.size hown zR g5).setCell (a1.lt go rfl).1 _)
   by_cases hk0:k=0
   ·have ho:o=false:=by cases o with | false=>rfl | true=>exact absurd (HO0.out rfl) zO
    have hkf:¬ (0 < k):=zO;have hkg:¬ ((0:Int) < (k:Int)):=zO;clear hk0;obtain ⟨x0,x1,x2,x3,_,_,_,_⟩:=X0.four;obtain ⟨vs0,d1,d2,d3⟩:=O0.out;rw [HL.out] at d1;have D1:=zH d1;clear d1 d2 d3;have hsx:=B0.size;have DA:=zH ((D1.alloc g).alloc (.cells #[.slice (some ⟨wr.heap.size+1,0,none⟩) 1 1] 24));have RA:=zH (show Rd (((wr.alloc g).alloc g).alloc (.cells #[.slice (some ⟨wr.heap.size+1,0,none⟩) 1 1] 24)) 1 (some ⟨wr.heap.size+1+1,0,none⟩) 1 [.slice (some ⟨wr.heap.size+1,0,none⟩) 1 1] from by have:=Rd.lit ((wr.alloc g).alloc g) 24 #[.slice (some ⟨wr.heap.size+1,0,none⟩) 1 1] 1 1 rfl;rw [World.size_alloc,World.size_alloc] at this;exact this)
    go_wp2_with (at_builtin;refine ah rfl (.tmp 42) (.tmp 45) 42 rfl Tryz.underlying42 kf rfl zD rfl DA.out rfl RA.out zV zO zD zS ?_;intro A5 c5 w5 o5 g5)
    have NW:=NEW.out (wr.alloc g) w5 A5 c5 vs0 O0.out D1.out B0.out;simp only [World.size_alloc] at NW;obtain ⟨k',o',l',A0',q',c0',rfl,rfl,rfl,rfl,rfl,f1,f2,f3,f4,f5,f6,f7,f8,f9⟩:=NW o5 g5 (.inl ho);exact BM
   ·have hk1:(0:Int) < (k:Int):=zO;have hk2:0 < k:=zO;go_wp2_with fail;refine (sN _ _ _ _ _).mono ?_;rintro e w1 ⟨rfl,b1⟩;have X1:=zH (X0.below b1);have O1:=zH (O0.below b1);have B1:=zH (aa B0 b1);clear b1 q0 q1 q2 q3;cases hph:ph g.k
    ·have HPH:=zH hph;clear hph;obtain ⟨x0,x1,x2,x3,_,_,_,_⟩:=X1.four;obtain ⟨vs0,d1,d2,d3⟩:=O1.out;rw [HL.out] at d1;have D1:=zH d1;clear d1 d2 d3;have hsx:=B1.size;have DA:=zH ((D1.alloc g).alloc (.cells #[.slice (some ⟨w1,0,none⟩) 1 1] 24));have RA:=zH (show Rd (((w1).alloc g).alloc (.cells #[.slice (some ⟨w1,0,none⟩) 1 1] 24)) 1 (some ⟨w1.heap.size+1,0,none⟩) 1 [.slice (some ⟨w1,0,none⟩) 1 1] from by have:=Rd.lit ((w1).alloc g) 24 #[.slice (some ⟨w1,0,none⟩) 1 1] 1 1 rfl;rw [World.size_alloc] at this;exact this)
     go_wp2_with (at_builtin;refine ah rfl (.tmp 42) (.tmp 45) 42 rfl Tryz.underlying42 kf rfl zD rfl DA.out rfl RA.out zV zO zD zS ?_;intro A5 c5 w5 o5 g5)
     have NW:=NEW.out (w1) w5 A5 c5 vs0 O1.out D1.out B1.out;obtain ⟨k',o',l',A0',q',c0',rfl,rfl,rfl,rfl,rfl,f1,f2,f3,f4,f5,f6,f7,f8,f9⟩:=NW o5 g5 (.inr HPH.out);exact BM
    ·have HPH:=zH hph;clear hph;obtain ⟨kp,hkp⟩:∃ kp,k=kp+1:=⟨k - 1,zO⟩;obtain ⟨bp,fp,g',hA',hBp,hd',r0,r1,r2,r3⟩:=(H.below B1.out).at_ (show kp < n by omega);injection hA' with hA'
     injection hA' with e1 e2 _
     subst e1 e2;have hoo:=HOP.out hk2 g' (by rw [hkp];have:=congrArg (fun r=>r[0]?) hd';simpa using this);have HOO:=zH hoo;have hkk:(k:Int) - 1=(kp:Int):=zO;have hkpn:(kp:Int) < (n:Int):=zO;have HKP:=zH hkp;clear hoo hd' hkp;go_wp2_with fail;refine (sN _ _ _ _ _).mono ?_;rintro e w2 ⟨rfl,b2⟩;have X2:=zH (X1.below b2);have O2:=zH (O1.below b2);have B2:=zH (aa B1 b2);clear b2 r0 r1 r2 r3 X1 O1 B1 hkk;cases hph2:ph g'.k
     ·have HO:=zH (HOO.trans hph2);clear hph2;obtain ⟨x0,x1,x2,x3,_,_,_,_⟩:=X2.four;obtain ⟨vs0,d1,d2,d3⟩:=O2.out;rw [HL.out] at d1;have D1:=zH d1;clear d1 d2 d3;have hsx:=B2.size;have DA:=zH ((D1.alloc g).alloc (.cells #[.slice (some ⟨w2,0,none⟩) 1 1] 24));have RA:=zH (show Rd (((w2).alloc g).alloc (.cells #[.slice (some ⟨w2,0,none⟩) 1 1] 24)) 1 (some ⟨w2.heap.size+1,0,none⟩) 1 [.slice (some ⟨w2,0,none⟩) 1 1] from by have:=Rd.lit ((w2).alloc g) 24 #[.slice (some ⟨w2,0,none⟩) 1 1] 1 1 rfl;rw [World.size_alloc] at this;exact this)
      go_wp2_with (at_builtin;refine ah rfl (.tmp 42) (.tmp 45) 42 rfl Tryz.underlying42 kf rfl zD rfl DA.out rfl RA.out zV zO zD zS ?_;intro A5 c5 w5 o5 g5)
      have NW:=NEW.out (w2) w5 A5 c5 vs0 O2.out D1.out B2.out;obtain ⟨k',o',l',A0',q',c0',rfl,rfl,rfl,rfl,rfl,f1,f2,f3,f4,f5,f6,f7,f8,f9⟩:=NW o5 g5 (.inl HO.out);exact BM
     ·have HO:=zH (HOO.trans hph2);clear hph2;have hq0:0 < q:=HQ0.out (HO0.out HO.out);obtain ⟨L,hL⟩:∃ L,q=L+1:=⟨q - 1,zO⟩;obtain ⟨go,cap1,x,D,dc,hv,hdx,cc,ff,ox,_⟩:=OwnSS.at_ zD O2.out (k:=L) (by rw [HL.out];omega);rw [HL.out] at hv;injection hv with hv1 _ hv3;subst hv1 hv3
      have hxk:=HROW.out x (List.mem_of_mem_drop (i:=L) (by rw [hdx];simp));have HXL:Hid (l[L]? = some x):=zH (by have:=congrArg (fun r=>r[0]?) hdx;simpa using this);have hqL:q - 1=L:=zO;obtain ⟨vs0,d1,d2,d3⟩:=O2.out;rw [HL.out] at d1;have HVL:Hid (vs0[L]? = some (.slice D x.length dc)):=zH (by rw [<- d1.cellAt L zO];exact cc);have EX0:=EXT.out ((w2).alloc g).drew;rw [hqL] at EX0;have EX:=zH EX0;have CA:=zH (show ((w2).alloc g).drew.cell? ⟨go,L,none⟩=some (.slice D x.length dc) from (((Below.refl (w2).heap.size (w2)).alloc zR g).cell (p:=⟨go,L,none⟩) (World.block_lt_of_cell? _ _ cc)).trans cc);have OSA:=zH (show OwnSS af ((w2).alloc g).drew w.heap.size 24 39 4 (.slice (some ⟨go,0,none⟩) q c0) l from O2.alloc _);have BA:=zH (show Below w w ((w2).alloc g).drew from (B2.alloc B2.size _).drew)
      have OXA:=zH (show ((w2).alloc g).drew.ownsRow w 39 4 (.slice D x.length dc) x.length (af x) from ox.alloc _);have DA1:=zH (show ((w2).alloc g).drew.ownsRow w 24 1 (.slice (some ⟨go,0,none⟩) q c0) q vs0 from d1.alloc _);have RA:=zH (show Rd ((w2).alloc g).drew 4 (some ⟨(w2).heap.size,0,none⟩) 1 g.cells from Rd.lit (w2) 39 #[g.k,g.a,g.b,g.c] 1 4 rfl);have hz4:(Value.agg #[(0:Int),(0:Int),(0:Int),(0:Int)]).cells.size=4:=rfl;obtain ⟨nx,hnx⟩:∃ nx,x.length=nx:=⟨_,rfl⟩;have HNX:=zH hnx;rw [hnx] at cc hxk HVL CA OXA;have CA':=CA.out;have hsx:=B2.size;have one4:∀ u ∈ g.cells,u.oneCell'=true:=by simp [Gt.cells,Value.oneCell']
      have ONE4:=zH one4;have hLq:L < q * 1:=zO;have hLi:(L:Int) < (q:Int):=zO;have hLj:L < q:=zO;have hLz:(0:Int)<=(L:Int):=zO;have HLE:=zH hL;have hgo:=World.block_lt_of_cell? _ _ cc;obtain ⟨x0,x1,x2,x3,_,_,_,_⟩:=X2.four;have nn:=World.new_ne (w2) _ cc;have hw1:IntKind.i64.wrap ((q:Int) - 1)=(L:Int):=by rw [IntKind.wrap_i64];omega
      have hw3:IntKind.i64.wrap (L:Int)=(L:Int):=by rw [IntKind.wrap_i64];omega
      have hw2:(q:Int) - 1=(L:Int):=zO;clear d1 d2 d3 hdx ox hL hnx hqL EX0 one4;go_wp2_with fail
      go_region_law
       (first | (refine uu zF (.tmp 37) (.tmp 39) 24 zF Tryz.underlying24 ak hz4 zD zA OXA.out zA RA.out ONE4.out zO zD zS ?_;intro A5 c5 w5 o5 g5 hb5;have D5:=DA1.kept g5 (aN DA1.out OXA.out zD);have cl5:=(D5.cellAt L hLq).trans HVL.out;have fl5:=D5.frozenAt L) | fail)
      all_goals clear hw1 hw2 hw3
      all_goals go_wp2_with fail
      all_goals have h5:=EX.out w5 go x D A5 dc c5 rfl OSA.out HXL.out (by rw [HNX.out];exact CA.out) (by rw [HNX.out];exact OXA.out) BA.out (by rw [HNX.out];exact o5) (by rw [HNX.out];exact g5) (by rw [HNX.out];exact hb5) HO.out HPH.out
      all_goals rw [HNX.out] at h5
      all_goals obtain ⟨k',o',l',rfl,rfl,f1,f2,f3,f4,f5,f6,f7,f8,f9⟩:=h5
      all_goals go_roundg (gk - 1)
      all_goals first
       |omega
       |exact ⟨k+1,true,l',some ⟨go,0,none⟩,q,c0,zO,by go_num,rfl,f1,f2,f3,f4,f5,f6,f7,f8,f9⟩
  ·go_wp2_with fail;go_ret;have hend:l=R:=by rw [<- HQ.out,List.drop_eq_nil_of_le (by have:=H.out.1;omega),it]
   have e1:=HL.out;subst hend;subst e1;exact ⟨A0,c0,rfl,OW,hb⟩
end Go.Proofs.YtmenmibfkojnoaaGreat
