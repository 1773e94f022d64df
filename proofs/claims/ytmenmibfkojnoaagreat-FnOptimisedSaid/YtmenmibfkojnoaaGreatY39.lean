/- Contract of l29All (spec): words and tab. -/
import Derived.Test.YtmenmibfkojnoaaGreatY38
set_option maxHeartbeats 16000000
set_option maxRecDepth 100000
namespace Go.Proofs.YtmenmibfkojnoaaGreat
open Go.RowKit
set_option linter.unusedVariables false
theorem tk {u:List Pq}:∀ (l:List (List Pq)) (k:Nat),u ∉ l->jb u k l = -1
 |[],k,_=>rfl
 |t :: r,k,h=>by
  rw [jb,if_neg (fun e=>h (by rw [e];simp))];exact tk r (k+1) (fun hm=>h (by simp [hm]))
theorem mE {u:List Pq}:∀ (l:List (List Pq)) (k:Nat),u ∈ l->∃ j,jb u k l=((k+j:Nat):Int)/\l[j]? = some u
 |[],k,h=>by cases h
 |t :: r,k,h=>by
  by_cases e:t=u
  ·exact ⟨0,by rw [jb,if_pos e];rfl,by rw [e];rfl⟩
  ·obtain ⟨j,h1,h2⟩:=mE r (k+1) (by rcases List.mem_cons.1 h with h | h;exact absurd h.symm e;exact h);exact ⟨j+1,by rw [jb,if_neg e,h1];congr 1;omega,h2⟩
abbrev wP (wx:World) (kb:Nat):Prop:=Bx wx kb 3 #[(1:Int),(2:Int),(3:Int),(4:Int),(5:Int),(6:Int)]
theorem ns {wx:World} {kb k:Nat} (h:wP wx kb) (hk:k < 6):wx.cell? ⟨kb,k,none⟩=some (.int .i64 ((k:Int)+1)):=by
 rw [h.cell k];obtain rfl | rfl | rfl | rfl | rfl | rfl:k=0\/k=1\/k=2\/k=3\/k=4\/k=5:=zO
 all_goals rfl
theorem OwnW.base_ {w:World} {B B' m c:Nat} {A:Option Addr} {ws:List (List Gt)} (h:OwnW w B A m c ws) (hb:B'<=B):OwnW w B' A m c ws:=by
 obtain ⟨h1,vs,h2,h3⟩:=h;refine ⟨h1,vs,ae h2 hb,fun k x hx=>?_⟩;obtain ⟨D,d,a,b⟩:=h3 k x hx;exact ⟨D,d,a,ae b hb⟩
theorem OwnT.base_ {w:World} {B B' m c:Nat} {A:Option Addr} {ts:List (List Pq)} (h:OwnT w B A m c ts) (hb:B'<=B):OwnT w B' A m c ts:=by
 obtain ⟨h1,vs,h0,h2,h3⟩:=h;refine ⟨h1,vs,h0,ae h2 hb,fun k x hx=>?_⟩;obtain ⟨D,d,a,b⟩:=h3 k x hx;exact ⟨D,d,a,ae b hb⟩
theorem Ee {w:World} {base g:Nat} {e:TypeId} {sz n:Nat} {v:Value} {xs:List Value} (h:w.ownsRow base e sz v n xs) (hg:g < base):some g ≠ v.ownBlock:=fun he=>by have:=(h.lt g he.symm).1;omega
theorem KL {w:World} {base b off n c:Nat} {e:TypeId} {sz:Nat} {xs:List Value} (h:w.ownsRow base e sz (.slice (some ⟨b,off,none⟩) n c) n xs):off=0:=by
 rcases h.2 with ⟨h0,_⟩ | ⟨g1,cap,cur,hv,_⟩
 ·cases h0
 ·simp only [Value.slice.injEq,Option.some.injEq,Addr.mk.injEq,and_true] at hv;exact hv.1.2
theorem Oz {w w':World} {base b n c:Nat} {e:TypeId} {xs:List Value} (h:w.ownsRow base e 1 (.slice (some ⟨b,0,none⟩) n c) n xs) (hK:∀ j u,xs[j]? = some u->w'.cell? ⟨b,j,none⟩=some u) {j:Nat} {v:Value} (hc:w.cell? ⟨b,j,none⟩=some v) (hj:j < xs.length):w'.cell? ⟨b,j,none⟩=some v:=by
 have h1:=h.cells (g:=b) rfl j xs[j] (List.getElem?_eq_getElem hj);have h2:w.cell? ⟨b,j,none⟩=some xs[j]:=by
  unfold Addr.add at h1;split at h1
  ·subst j;exact h1
  ·simpa using h1
 rw [hc] at h2;injection h2 with h2;rw [h2]
 exact hK j _ (List.getElem?_eq_getElem hj)
theorem FW (w:World) (e:TypeId) (v:Value):∀ j u,[v][j]? = some u->(w.alloc (.cells #[v] e)).cell? ⟨w,j,none⟩=some u:=by
 intro j u hu;rw [(Bx.new w e #[v]).cell j];simpa using hu
theorem lZ {p:Prop} (h:p:=by first | exact z3.size | exact Nat.le_trans z3.size b50.size | (have:=z3.size;simp;omega) | (have:=b5.size;simp;omega)):p:=h
theorem Vt (c0t:Nat) (At:Option Addr) (r:List Pq) (w:World) (hr:RdG w At 2 (dP 1 r)) (hok:ed 1 r):Calls Tryz.prog 180 #[.agg #[(1:Int),.slice At 2 c0t]] w fun e w'=>∃ i m A c A' c',e=.returned (.tuple #[.slice A m c,.slice A' m c'])/\i<=24/\r ∈ (dw i).2/\OwnW w' w.heap.size A m c (dw i).1/\OwnT w' w.heap.size A' m c' (dw i).2/\Below w w w':=by
 have HR:=zH hr;have HOK:=zH hok;have hz2:(Value.agg #[(0:Int),.slice none 0 0]).cells.size=2:=rfl;have hz1:(Value.slice none 0 0).cells.size=1:=rfl;have hz4:(Value.agg #[(0:Int),(0:Int),(0:Int),(0:Int)]).cells.size=4:=rfl;obtain ⟨wa,hwa⟩:∃ x,w.alloc (.cells #[(1:Int),.slice At 2 c0t] 73)=x:=⟨_,rfl⟩;have XA:=zH (show Bx wa w 73 #[(1:Int),.slice At 2 c0t] from hwa ▸ Bx.new w _ _);have BAa:=zH (show Below w w wa from hwa ▸ (zW).alloc zR _);have lwa:w.heap.size<=wa.heap.size:=BAa.size;have HRa:=zH (HR.below BAa);have lww:w.heap.size < wa.heap.size:=XA.lt;clear hr hok HR;have W0:=zH (show OwnW ((wa.alloc (.cells #[] 39)).alloc (.cells #[.slice (some ⟨wa,0,none⟩) 0 0] 24)) wa.heap.size (some ⟨wa.heap.size+1,0,none⟩) 1 1 [[]] from ⟨rfl,[.slice (some ⟨wa,0,none⟩) 0 0],by
   have:=World.ownsRow_lit (base:=wa.heap.size) (e:=24) (size:=1) (wa.alloc (.cells #[] 39)) #[.slice (some ⟨wa,0,none⟩) 0 0] 1 zI zM rfl;rw [World.size_alloc] at this;exact this,fun k x hx=>by
   have hk:k < 1:=(List.getElem?_eq_some_iff.1 hx).1;obtain rfl:k=0:=zO;injection hx with hx;subst hx
   exact ⟨_,0,rfl,(World.ownsRow_lit wa #[] 0 zR zM rfl).alloc _⟩⟩)
 have B0:=zH (show Below wa wa ((wa.alloc (.cells #[] 39)).alloc (.cells #[.slice (some ⟨wa,0,none⟩) 0 0] 24)) from ((zW).alloc zR _).alloc zI _);have X0:=zH ((XA.alloc (.cells #[] 39)).alloc (.cells #[.slice (some ⟨wa,0,none⟩) 0 0] 24));clear XA;go_enter Tryz.func180,Tryz.ntmps180;go_upto_region 1 with fail
 skip;clear hwa;go_wp2_with fail;refine (wi 1 _ zO).mono ?_;intro e w1 hret;obtain ⟨A0,c0,rfl,o1,b1⟩:=RetT2.of hret;clear hret;have lR1:wa.heap.size<=w1.heap.size:=Nat.le_trans B0.size b1.size;have W1:=zH (((W0.below b1).alloc (.cells #[(1:Int),.slice A0 2 c0] 73)).alloc (.cells #[(1:Int),(2:Int),(3:Int),(4:Int),(5:Int),(6:Int)] 3));have X1:=zH (((X0.below b1).alloc (.cells #[(1:Int),.slice A0 2 c0] 73)).alloc (.cells #[(1:Int),(2:Int),(3:Int),(4:Int),(5:Int),(6:Int)] 3));have B1:=zH (((br B0 zJ b1).alloc lR1 (.cells #[(1:Int),.slice A0 2 c0] 73)).alloc zS (.cells #[(1:Int),(2:Int),(3:Int),(4:Int),(5:Int),(6:Int)] 3));have T1:=zH (show OwnT (w1.alloc (.cells #[(1:Int),.slice A0 2 c0] 73)) wa.heap.size (some ⟨w1,0,none⟩) 1 1 [ch 1] from ⟨rfl,[.slice A0 2 c0],rfl,World.ownsRow_lit w1 #[(1:Int),.slice A0 2 c0] 1 lR1 zM rfl,fun k x hx=>by
   have hk:k < 1:=(List.getElem?_eq_some_iff.1 hx).1;obtain rfl:k=0:=zO;injection hx with hx;subst hx
   exact ⟨_,c0,rfl,ae (o1.alloc _) zJ⟩⟩)
 have T1:=zH (T1.alloc (.cells #[(1:Int),(2:Int),(3:Int),(4:Int),(5:Int),(6:Int)] 3));have K1:=zH (show wP ((w1.alloc (.cells #[(1:Int),.slice A0 2 c0] 73)).alloc (.cells #[(1:Int),(2:Int),(3:Int),(4:Int),(5:Int),(6:Int)] 3)) (w1.heap.size+1) from Bx.new' zI);clear o1 b1 W0 B0 X0;obtain ⟨kb,hkb⟩:∃ x,w1.heap.size+1=x:=⟨_,rfl⟩;rw [hkb] at K1;go_wp2_with fail;go_loopg [4,5,7] 24 (fun g v1 v2 v3 wr=>∃ (i m:Nat) (A:Option Addr) (c:Nat) (A':Option Addr) (c':Nat),i+g=24/\v3=.int .i64 i/\v1=.slice A m c/\v2=.slice A' m c'/\OwnW wr wa.heap.size A m c (dw i).1/\OwnT wr wa.heap.size A' m c' (dw i).2/\Bx wr w 73 #[(1:Int),.slice At 2 c0t]/\wP wr kb/\Below wa wa wr/\wa.heap.size<=wr.heap.size)
 case atStart=>exact ⟨0,1,_,_,_,_,zO,rfl,rfl,rfl,W1.out,T1.out,X1.out,K1.out,B1.out,zJ⟩
 case round =>
  clear W1 T1 B1 X1 K1 hkb lR1;obtain ⟨i,m,A,c,A',c',hi,rfl,rfl,rfl,hW,hT,hX,hK,hB,lR⟩:=hrel;have HW:=zH hW;have HT:=zH hT;have HB:=zH hB;have HX:=zH hX;have HK:=zH hK;obtain ⟨x0,x1,_⟩:=hX.two;have hm24:m<=24:=by have:=(px (i:=i) zO).2.2.2.1;have:=hT.1;omega
  by_cases hlt:i < 24
  ·have hm:i < m:=by have:=(MidB.start hlt).2.2;have:=hW.1;omega
   have HM:=zH (MidB.start hlt);have imI:(i:Int) < (m:Int):=zO;clear hW hT hB hX hK;by_cases hmem:r ∈ (dw i).2
   ·obtain ⟨j,hj,_⟩:=mE _ 0 hmem;have HJ:=zH hj;have HMEM:=zH hmem;have hjn:¬ (((0+j:Nat):Int) < 0):=zO;clear hj hmem;go_wp2_with fail;refine (th wa.heap.size m c' c0t A' At (dw i).2 r _ HT zO (HRa.below HB)).mono ?_;rintro e w2 ⟨rfl,b2⟩;rw [HJ.out];have W2:=zH (HW.below b2);have T2:=zH (HT.below b2);have B2:=zH (br HB lR b2);clear b2 HW HT HB;go_wp2_with fail;go_ret2;exact ⟨i,m,A,c,A',c',rfl,zO,HMEM,W2.base_ lwa,T2.base_ lwa,aa BAa B2⟩
   ·have HJ:=zH (tk _ 0 hmem);clear hmem;go_wp2_with fail;refine (th wa.heap.size m c' c0t A' At (dw i).2 r _ HT zO (HRa.below HB)).mono ?_;rintro e w2 ⟨rfl,b2⟩;rw [HJ.out];have W2:=zH (HW.below b2);have T2:=zH (HT.below b2);have B2:=zH (br HB lR b2);have X2:=zH (HX.below b2);have K2:=zH (HK.below b2);have lR2:=Nat.le_trans lR b2.size;clear b2 HW HT HB HX HK x0 x1 lR;obtain ⟨gq,rfl⟩:∃ q,q=gk:=⟨_,rfl⟩;have HM2:=HM;go_wp2_with fail;go_loopg [4,5,8] 6 (fun g v1 v2 v4 ws=>∃ (k m:Nat) (s:Dt) (A:Option Addr) (c:Nat) (A':Option Addr) (c':Nat),k+g=6/\v4=.int .i64 (k:Nat)/\v1=.slice A m c/\v2=.slice A' m c'/\MidB i s (kinds6.drop k)/\OwnW ws wa.heap.size A m c s.1/\OwnT ws wa.heap.size A' m c' s.2/\Bx ws w 73 #[(1:Int),.slice At 2 c0t]/\wP ws kb/\Below wa wa ws/\wa.heap.size<=ws.heap.size)
    case atStart=>exact ⟨0,m,_,_,_,_,_,zO,rfl,rfl,rfl,HM.out,W2.out,T2.out,X2.out,K2.out,B2.out,lR2⟩
    case round =>
     clear W2 T2 B2 X2 K2 HM HM2 imI hm hm24 lR2 HJ;obtain ⟨k,m,s,A,c,A',c',hk,rfl,rfl,rfl,hM,hW,hT,hX,hK,hB,lR⟩:=hrel;have HW:=zH hW;have HT:=zH hT;have HB:=zH hB;have HM:=zH hM;have HX:=zH hX;have HK:=zH hK;by_cases hk6:k < 6
     ·have hm24:m<=24:=by have:=(hM.all hlt).2.2;have:=hT.1;omega
      have him:i < m:=by have:=hM.2.2;have:=hW.1;omega
      have NX:=zH (hM.next hk6);obtain ⟨t,ht⟩:=aV (l:=s.2) (k:=i) (by rw [hT.1];exact him);obtain ⟨x,hx⟩:=aV (l:=s.1) (k:=i) (by rw [hW.1];exact him);have OKT:=zH (qf ((hM.all hlt).2.1 t (List.mem_of_getElem? ht)));have OKX:=zH (ij ((hM.all hlt).1 x (List.mem_of_getElem? hx)));obtain ⟨b,off,D,d,rfl,hbl,y0,y1,o1⟩:=hT.at_ ht;have y2:=ns hK hk6;have hkl:=hK.lt;obtain ⟨u,hu⟩:∃ u,di 1 (g1 ((k:Int)+1)) t=u:=⟨_,rfl⟩;have HU:=zH hu;have HG:=zH (eh (k:=(k:Int)+1) zO);have HXX:=zH hx;have HST:=zH (show gZ s i ((k:Int)+1)=if s.2.contains u=true then s else (s.1++[x++[g1 ((k:Int)+1)]],s.2++[u]) by
       have e1:s.2.getD i []=t:=by rw [List.getD_eq_getElem?_getD,ht];rfl
       have e2:s.1.getD i []=x:=by rw [List.getD_eq_getElem?_getD,hx];rfl
       unfold gZ;rw [e1,e2,hu])
      have OT:=zH o1;have imI:(i:Int) < (m:Int):=zO;have k6I:(k:Int) < 6:=zO;have HKK:=zH hk;clear hW hT hB hM hX hK ht hx hu o1 hk;go_upto_region 10 with fail
      have TK:=fun (w5:World) (b5:Below wr wr w5)=>(⟨(b5.cell (p:=⟨b,off+i * 2,none⟩) hbl).trans y0,(b5.cell (p:=⟨b,off+i * 2+1,none⟩) hbl).trans y1,(b5.cell (p:=⟨kb,k,none⟩) hkl).trans y2⟩:w5.cell? ⟨b,off+i * 2,none⟩=some (.int .i64 1)/\w5.cell? ⟨b,off+i * 2+1,none⟩=some (.slice D 2 d)/\w5.cell? ⟨kb,k,none⟩=some (.int .i64 ((k:Int)+1)))
      have TK0:=TK _ (Below.refl wr wr).drew;have TR:=fun (w5:World) (b5:Below wr wr w5)=>cC (ab OT.out b5)
      have BA:=(Below.refl wr wr).alloc zR ZO.zT
      go_cut [9] (fun s5 wx=>∃ P D5 d5,s5=.pointer (some ⟨P,0,none⟩)/\Bx wx P 73 #[(1:Int),.slice D5 2 d5]/\wx.ownsRow wa 151 4 (.slice D5 2 d5) 2 (af (dP 1 u))/\Below wr wr wx)
      case first =>
       go_region_held3 (fun w'=>w'.cell? ⟨b,off+i * 2,none⟩=some (.int .i64 1)/\w'.cell? ⟨b,off+i * 2+1,none⟩=some (.slice D 2 d)/\w'.cell? ⟨kb,k,none⟩=some (.int .i64 ((k:Int)+1)))
        (first
         |exact TK0
         |exact TK _ BA.drew
         |exact TK _ b5
         |exact TK _ b6
         |exact TK _ (b5.alloc b5.size _)
         |exact TK _ (b5.alloc b5.size _).drew
         |exact TK _ (b6.alloc b6.size _)
         |exact TK _ (b6.alloc b6.size _).drew
         |exact TK _ (ay b6 zR _ _)
         |exact TK _ (ay b6 b5.size _ _)
         |exact TK _ (ay b6 zR _ _).drew
         |exact TK _ (ay b6 b5.size _ _).drew
         |go_keep)
        (first
         |(go_at_call 106;refine (eG _ _ _).mono ?_;rintro e w5 ⟨rfl,b50⟩;(first | (have b5:=aa (Below.refl wr wr).drew b50) | (have b5:=aa BA.drew b50) | (have b5:=aa BA b50)))
         |(go_at_call 111;refine (fu 1 2 d D t (g1 ((k:Int)+1)) _ zO (by first | exact TR _ b5 | exact TR _ (b5.alloc b5.size _) | exact TR _ (b5.alloc b5.size _).drew) (ao OT.out) OKT.out HG.out.1 HG.out.2).mono ?_;rw [HU.out];intro e w6 hret;obtain ⟨D5,d5,rfl,o6,b60⟩:=RetT1.of hret;clear hret;(first | (have b6:=aa b5 b60) | (have b6:=aa (b5.alloc b5.size ZO.zT) b60));(first | (have PB:Bx w6 wr 73 #[(0:Int),.slice none 0 0]:=((Bx.new wr _ _).drew.below b50).below b60;obtain ⟨q0,q1,q2,q3⟩:=PB.two) | (have PB:Bx w6 w5 73 #[(0:Int),.slice none 0 0]:=(Bx.new w5 _ _).below b60;obtain ⟨q0,q1,q2,q3⟩:=PB.two) | skip))
         |fail)
       all_goals go_wp2_with fail
       all_goals go_meet
       all_goals first
        |exact ⟨_,D5,d5,rfl,Bx.new _ _ _,ae (o6.alloc _) (Nat.le_trans lR b5.size),b6.alloc b6.size _⟩
        |exact ⟨_,D5,d5,rfl,PB.set2 _ _,kK (ae o6 (Nat.le_trans lR b5.size)) PB zD,ay b6 zR _ _⟩
        |exact ⟨_,D5,d5,rfl,PB.set2 _ _,kK (ae o6 (by have:=b5.size;simp;omega)) PB zD,ay b6 b5.size _ _⟩
      case rest =>
       obtain ⟨P,D5,d5,rfl,hP,hO,hB5⟩:=hcut;have W5:=zH (HW.below hB5);have T5:=zH (HT.below hB5);have B5:=zH (br HB lR hB5);have X5:=zH (HX.below hB5);have K5:=zH (HK.below hB5);have lR5:wa.heap.size<=wc.heap.size:=Nat.le_trans lR hB5.size;have P5:=zH hP;have O5:=zH hO;obtain ⟨p0,p1,_⟩:=hP.two;clear TK TK0 TR BA y0 y1 y2 hkl hP hO hB5 HW HT HB HX HK OT hbl lR;obtain ⟨gp,rfl⟩:∃ q,q=gk:=⟨_,rfl⟩;obtain ⟨w7,rfl⟩:∃ w7,w7=wc:=⟨_,rfl⟩;by_cases hmem:u ∈ s.2
       ·obtain ⟨j,hj,_⟩:=mE _ 0 hmem;have HJ:=zH hj;have hjn:(0:Int)<=((0+j:Nat):Int):=zO;have HS9:=zH (show gZ s i ((k:Int)+1)=s by rw [HST.out,if_pos (List.contains_iff_mem.2 hmem)]);clear hj hmem;go_wp2_with fail;refine (th wa.heap.size m c' d5 _ D5 s.2 u _ T5 zO (cC O5)).mono ?_;rintro e w8 ⟨rfl,b8⟩;rw [HJ.out];have W9:=zH (W5.below b8);have T9:=zH (T5.below b8);have B9:=zH (br B5 lR5 b8);have X9:=zH (X5.below b8);have K9:=zH (K5.below b8);have lR9:=Nat.le_trans lR5 b8.size;have NX2:=NX.out;rw [HS9.out] at NX2;have NX9:=zH NX2;clear NX2 b8 p0 p1;go_wp2_with fail;go_roundg (gp - 1)
        all_goals first
         |(have:=HKK.out;omega)
         |exact ⟨k+1,m,s,_,_,_,_,by have:=HKK.out;omega,by go_num,rfl,rfl,NX9.out,W9.out,T9.out,X9.out,K9.out,B9.out,lR9⟩
       ·have HJ:=zH (tk _ 0 hmem);have HS9:=zH (show gZ s i ((k:Int)+1)=(s.1++[x++[g1 ((k:Int)+1)]],s.2++[u]) by rw [HST.out,if_neg (fun h=>hmem (List.contains_iff_mem.1 h))]);clear hmem;go_wp2_with fail;refine (th wa.heap.size m c' d5 _ D5 s.2 u _ T5 zO (cC O5)).mono ?_;rintro e w8 ⟨rfl,b8⟩;rw [HJ.out];have W9:=zH (W5.below b8);have B9:=zH (br B5 lR5 b8);have X9:=zH (X5.below b8);have K9:=zH (K5.below b8);have P9:=P5.below b8;have O9:=zH (ab O5 b8);have lR9:=Nat.le_trans lR5 b8.size;have NX2:=NX.out;rw [HS9.out] at NX2;have NX9:=zH NX2;obtain ⟨hlt2,vt,h0t,hvt,hit⟩:=(T5.below b8).alloc (.cells #[(1:Int),.slice D5 2 d5] 73);have HVT:=zH hvt;have HIT:=zH hit;have HLT:=zH hlt2;have H0T:=zH h0t;clear p0 p1;obtain ⟨p0,p1,_⟩:=P9.two;clear NX2 b8 hvt hit hlt2 h0t P9
        go_upto_region 13 with (at_builtin;refine ah rfl (.tmp 51) (.tmp 53) 179 rfl Tryz.underlying179 KI hz2 zD rfl HVT.out rfl (Rd.lit w8 73 #[(1:Int),.slice D5 2 d5] 1 2 rfl) zV zO zD zS ?_;intro A9 c9 wE oE gE;have TE:=zH (OwnT.push (t:=u) HLT.out H0T.out HVT.out HIT.out (O9.alloc _) gE oE);have WE:=zH ((W9.alloc _).grown HVT.out zD zD gE);have BE:=zH (ag (B9.alloc lR9 _) zJ HVT.out zR gE);have lRE:=Nat.le_trans (Nat.le_succ_of_le lR9) (by have:=gE.size;simpa using this);have KE:=zH (az HVT.out gE (K9.alloc _) zD);have XE:=zH ((X9.alloc _).grown gE (Ee HVT.out lww));clear oE gE)
        clear HVT HIT HLT H0T W9 B9 X9 K9 O9 T5 W5 B5 X5 K5 P5 O5 p0 p1;have hn4:x.length<=4:=OKX.out.1;obtain ⟨bw,ow,Dx,dx,rfl,hbw,yw,ox⟩:=WE.at_ HXX.out;obtain ⟨_,vs0,hv0,_⟩:=WE.out;obtain rfl:=KL hv0;rw [Nat.zero_add] at yw;clear hv0;have ykb:=ns KE.out hk6;have hkl2:=KE.lt;have TK2:=fun (w5:World) (b5:Below wE.heap.size wE w5)=>(⟨(b5.cell (p:=⟨bw,i,none⟩) hbw).trans yw,(b5.cell (p:=⟨kb,k,none⟩) hkl2).trans ykb⟩:w5.cell? ⟨bw,i,none⟩=some (.slice Dx x.length dx)/\w5.cell? ⟨kb,k,none⟩=some (.int .i64 ((k:Int)+1)))
        have OX:=zH ox;have OXr:=fun (w5:World) (b5:Below wE.heap.size wE w5)=>(Rd.own OX.out).below b5
        have BE0:=(Below.refl wE.heap.size wE).alloc zR (.cells #[] 39)
        go_region_held3 (fun w'=>w'.cell? ⟨bw,i,none⟩=some (.slice Dx x.length dx)/\w'.cell? ⟨kb,k,none⟩=some (.int .i64 ((k:Int)+1)))
         (first
          |with_reducible exact S10
          |with_reducible exact TK2 _ (Below.refl wE.heap.size wE).drew
          |with_reducible exact TK2 _ BE0
          |with_reducible exact TK2 _ BE0.drew
          |with_reducible exact TK2 _ b5
          |with_reducible exact TK2 _ b5.drew
          |with_reducible exact TK2 _ (b5.alloc b5.size _)
          |with_reducible exact TK2 _ (b5.alloc b5.size _).drew
          |with_reducible exact TK2 _ ((b5.alloc b5.size _).alloc (b5.alloc b5.size _).size _)
          |with_reducible exact TK2 _ ((b5.alloc b5.size _).alloc (b5.alloc b5.size _).size _).drew
          |with_reducible exact TK2 _ z3
          |with_reducible exact TK2 _ z3.drew
          |with_reducible exact TK2 _ (z3.alloc z3.size _)
          |with_reducible exact TK2 _ (z3.alloc z3.size _).drew
          |with_reducible exact TK2 _ ((z3.alloc z3.size _).alloc (z3.alloc z3.size _).size _)
          |with_reducible exact TK2 _ ((z3.alloc z3.size _).alloc (z3.alloc z3.size _).size _).drew
          |with_reducible exact TK2 _ z8
          |with_reducible exact TK2 _ z8.drew
          |with_reducible exact TK2 _ (z8.alloc z8.size _)
          |with_reducible exact TK2 _ (z8.alloc z8.size _).drew
          |with_reducible exact TK2 _ ((z8.alloc z8.size _).alloc (z8.alloc z8.size _).size _)
          |with_reducible exact TK2 _ ((z8.alloc z8.size _).alloc (z8.alloc z8.size _).size _).drew
          |go_keep)
         (first
          |(go_at_call 106;refine (eG _ _ _).mono ?_;rintro e w5 ⟨rfl,b50⟩;have b5:Below wE.heap.size wE w5:=(by first | with_reducible exact aa (Below.refl wE.heap.size wE).drew b50 | with_reducible exact aa BE0 b50 | with_reducible exact aa BE0.drew b50 | with_reducible exact aa z3 b50 | with_reducible exact aa z3.drew b50))
          |(refine eT zF (.tmp 56) (.tmp 60) 24 zF Tryz.underlying24 ak hz4 (base:=wE.heap.size) (news:=af x) rfl ?_ ?_ rfl ?_ zO zD ?_;(first | with_reducible exact kA zI | with_reducible exact Bx.new' zI | with_reducible exact mH (Bx.new' zI) | with_reducible exact (Bx.new wE _ _).drew.below b50 | with_reducible exact ((Bx.new wE _ _).drew.below b50).alloc _ | with_reducible exact (((Bx.new wE _ _).drew.below b50).alloc _).drew | with_reducible exact (Bx.new wE _ _).below b50 | with_reducible exact ((Bx.new wE _ _).below b50).alloc _ | with_reducible exact (((Bx.new wE _ _).below b50).alloc _).drew | with_reducible exact (Bx.new w5 _ _).alloc _ | with_reducible exact ((Bx.new w5 _ _).alloc _).drew | with_reducible exact (Bx.new w5 _ _).drew | with_reducible exact (Bx.new w5 _ _));(first | exact zR | exact b5.size | exact Nat.le_succ_of_le b5.size | (simp;have:=b5.size;omega));(first | with_reducible exact OXr _ (Below.refl wE.heap.size wE).drew | with_reducible exact OXr _ BE0 | with_reducible exact OXr _ BE0.drew | with_reducible exact OXr _ b5 | with_reducible exact OXr _ b5.drew | with_reducible exact OXr _ (b5.alloc b5.size _) | with_reducible exact OXr _ (b5.alloc b5.size _).drew | with_reducible exact OXr _ ((b5.alloc b5.size _).alloc (b5.alloc b5.size _).size _) | with_reducible exact OXr _ ((b5.alloc b5.size _).alloc (b5.alloc b5.size _).size _).drew);intro A3 c3 w3 o3 b3;have z3:Below wE.heap.size wE w3:=(by first | with_reducible exact aa (Below.refl wE.heap.size wE).drew b3 | with_reducible exact aa BE0 b3 | with_reducible exact aa BE0.drew b3 | with_reducible exact aa b5 b3 | with_reducible exact aa (b5.alloc b5.size _) b3 | with_reducible exact aa (b5.alloc b5.size _).drew b3 | with_reducible exact aa ((b5.alloc b5.size _).alloc (b5.alloc b5.size _).size _) b3 | with_reducible exact aa ((b5.alloc b5.size _).alloc (b5.alloc b5.size _).size _).drew b3))
          |((first | (refine bv zF (.tmp 61) (.tmp 67) 24 zF Tryz.underlying24 ak hz4 zD zA o3 zA ((Rd.lit w5 39 #[.int .i64 ((k:Int)+1),(0:Int),(0:Int),(0:Int)] 1 4 rfl).below b3) zV zO zD lZ ?_) | (refine bv zF (.tmp 61) (.tmp 67) 24 zF Tryz.underlying24 ak hz4 zD zA o3 zA (((Rd.lit w5 39 #[.int .i64 ((k:Int)+1),(0:Int),(0:Int),(0:Int)] 1 4 rfl).alloc _).below b3) zV zO zD lZ ?_) | (refine bv zF (.tmp 61) (.tmp 67) 24 zF Tryz.underlying24 ak hz4 zD zA o3 zA ((vG w5 (.cells #[] 39) 39 #[.int .i64 ((k:Int)+1),(0:Int),(0:Int),(0:Int)] 1 4 rfl).below b3) zV zO zD lZ ?_) | (refine bv zF (.tmp 61) (.tmp 67) 24 zF Tryz.underlying24 ak hz4 zD zA ((ab o3 b50).alloc _) zA ((Rd.lit w5 39 #[.int .i64 ((k:Int)+1),(0:Int),(0:Int),(0:Int)] 1 4 rfl)) zV zO zD lZ ?_) | (refine bv zF (.tmp 61) (.tmp 67) 24 zF Tryz.underlying24 ak hz4 zD zA (o3.alloc _) zA ((Rd.lit w3 39 #[.int .i64 ((k:Int)+1),(0:Int),(0:Int),(0:Int)] 1 4 rfl)) zV zO zD lZ ?_) | (refine bv zF (.tmp 61) (.tmp 67) 24 zF Tryz.underlying24 ak hz4 zD zA o3 zA ((Rd.lit w5 39 #[.int .i64 ((k:Int)+1),(0:Int),(0:Int),(0:Int)] 1 4 rfl).drew.below b3) zV zO zD lZ ?_) | (refine bv zF (.tmp 61) (.tmp 67) 24 zF Tryz.underlying24 ak hz4 zD zA o3 zA (((Rd.lit w5 39 #[.int .i64 ((k:Int)+1),(0:Int),(0:Int),(0:Int)] 1 4 rfl).alloc _).drew.below b3) zV zO zD lZ ?_) | (refine bv zF (.tmp 61) (.tmp 67) 24 zF Tryz.underlying24 ak hz4 zD zA o3 zA ((vG w5 (.cells #[] 39) 39 #[.int .i64 ((k:Int)+1),(0:Int),(0:Int),(0:Int)] 1 4 rfl).drew.below b3) zV zO zD lZ ?_));intro A8 c8 w8 o8 g8;have z8:Below wE.heap.size wE w8:=(by first | with_reducible exact ag b5 b5.size (o3) zR g8 | with_reducible exact ag b5 b5.size (o3.alloc _) zR g8 | with_reducible exact ag b5 b5.size (aq (o3.alloc _)) zR g8 | with_reducible exact ag b5 b5.size (ab o3 b50) zR g8 | with_reducible exact ag b5 b5.size ((ab o3 b50).alloc _) zR g8 | with_reducible exact ag b5 b5.size (aq ((ab o3 b50).alloc _)) zR g8 | with_reducible exact ag (b5.alloc b5.size _) (b5.alloc b5.size _).size (o3) zR g8 | with_reducible exact ag (b5.alloc b5.size _) (b5.alloc b5.size _).size (o3.alloc _) zR g8 | with_reducible exact ag (b5.alloc b5.size _) (b5.alloc b5.size _).size (aq (o3.alloc _)) zR g8 | with_reducible exact ag (b5.alloc b5.size _) (b5.alloc b5.size _).size (ab o3 b50) zR g8 | with_reducible exact ag (b5.alloc b5.size _) (b5.alloc b5.size _).size ((ab o3 b50).alloc _) zR g8 | with_reducible exact ag (b5.alloc b5.size _) (b5.alloc b5.size _).size (aq ((ab o3 b50).alloc _)) zR g8 | with_reducible exact ag (b5.alloc b5.size _).drew (b5.alloc b5.size _).drew.size (o3) zR g8 | with_reducible exact ag (b5.alloc b5.size _).drew (b5.alloc b5.size _).drew.size (o3.alloc _) zR g8 | with_reducible exact ag (b5.alloc b5.size _).drew (b5.alloc b5.size _).drew.size (aq (o3.alloc _)) zR g8 | with_reducible exact ag (b5.alloc b5.size _).drew (b5.alloc b5.size _).drew.size (ab o3 b50) zR g8 | with_reducible exact ag (b5.alloc b5.size _).drew (b5.alloc b5.size _).drew.size ((ab o3 b50).alloc _) zR g8 | with_reducible exact ag (b5.alloc b5.size _).drew (b5.alloc b5.size _).drew.size (aq ((ab o3 b50).alloc _)) zR g8 | with_reducible exact ag z3 z3.size (o3) zR g8 | with_reducible exact ag z3 z3.size (o3.alloc _) zR g8 | with_reducible exact ag z3 z3.size (aq (o3.alloc _)) zR g8 | with_reducible exact ag z3 z3.size (ab o3 b50) zR g8 | with_reducible exact ag z3 z3.size ((ab o3 b50).alloc _) zR g8 | with_reducible exact ag z3 z3.size (aq ((ab o3 b50).alloc _)) zR g8 | with_reducible exact ag (z3.alloc z3.size _) (z3.alloc z3.size _).size (o3) zR g8 | with_reducible exact ag (z3.alloc z3.size _) (z3.alloc z3.size _).size (o3.alloc _) zR g8 | with_reducible exact ag (z3.alloc z3.size _) (z3.alloc z3.size _).size (aq (o3.alloc _)) zR g8 | with_reducible exact ag (z3.alloc z3.size _) (z3.alloc z3.size _).size (ab o3 b50) zR g8 | with_reducible exact ag (z3.alloc z3.size _) (z3.alloc z3.size _).size ((ab o3 b50).alloc _) zR g8 | with_reducible exact ag (z3.alloc z3.size _) (z3.alloc z3.size _).size (aq ((ab o3 b50).alloc _)) zR g8 | with_reducible exact ag (z3.alloc z3.size _).drew (z3.alloc z3.size _).drew.size (o3) zR g8 | with_reducible exact ag (z3.alloc z3.size _).drew (z3.alloc z3.size _).drew.size (o3.alloc _) zR g8 | with_reducible exact ag (z3.alloc z3.size _).drew (z3.alloc z3.size _).drew.size (aq (o3.alloc _)) zR g8 | with_reducible exact ag (z3.alloc z3.size _).drew (z3.alloc z3.size _).drew.size (ab o3 b50) zR g8 | with_reducible exact ag (z3.alloc z3.size _).drew (z3.alloc z3.size _).drew.size ((ab o3 b50).alloc _) zR g8 | with_reducible exact ag (z3.alloc z3.size _).drew (z3.alloc z3.size _).drew.size (aq ((ab o3 b50).alloc _)) zR g8);have HV8:=(WE.out.below z8).alloc (.cells #[.slice A8 (x.length+1) c8] 24);obtain ⟨hl8,vs8,hv8,hi8⟩:=HV8)
          |(refine Fy zF (.tmp 55) (.tmp 69) 42 zF Tryz.underlying42 tg hz1 zD zA hv8 zA (b:=w8.heap.size) (m:=1) (c':=1) (news:=[.slice A8 (x.length+1) c8]) rfl (FW w8 24 _) zV zO zD (by have:=z8.size;simp<;>omega) ?_;intro A10 c10 w10 o10 g10 k10;have S10:=(show w10.cell? ⟨bw,i,none⟩=some (.slice Dx x.length dx)/\w10.cell? ⟨kb,k,none⟩=some (.int .i64 ((k:Int)+1)) from ⟨Oz hv8 k10 (TK2 _ (z8.alloc z8.size _)).1 (by have:=hv8.1;omega),ns (az hv8 g10 ((KE.below z8).alloc _) zD) hk6⟩))
          |fail)
        all_goals have W10:=OwnW.push (x:=x++[g1 ((k:Int)+1)]) (D:=A8) (d:=c8) hl8 hv8 hi8 (by rw [List.length_append,av];exact ae (o8.alloc _) lRE) g10 (by rw [List.length_append];exact o10)
        all_goals have T10:=((TE.below z8).alloc _).grown hv8 zD zD g10
        all_goals have X10:=((XE.below z8).alloc _).grown g10 (Ee hv8 lww)
        all_goals have K10:=az hv8 g10 ((KE.below z8).alloc _) zD
        all_goals have lR8:=Nat.le_trans lRE z8.size
        all_goals have B10:=ag ((br BE.out lRE z8).alloc lR8 _) zJ hv8 zR g10
        all_goals have lR10:=Nat.le_trans (Nat.le_succ_of_le lR8) (by have:=g10.size;simpa using this)
        all_goals clear o10 hv8 hi8 hl8 k10 g10 o8 S10
        all_goals go_wp2_with fail
        all_goals go_roundg (gp - 1)
        all_goals first
         |(have:=HKK.out;omega)
         |exact ⟨k+1,m+1,_,_,_,_,_,by have:=HKK.out;omega,by go_num,rfl,rfl,NX9.out,W10,T10,X10,K10,B10,lR10⟩
         |exact ⟨k+1,m+1,_,_,_,_,_,by have:=HKK.out;omega,by go_num,rfl,rfl,NX9.out,W10.drew,T10.drew,X10.drew,K10.drew,B10.drew,lR10⟩
     ·obtain rfl:k=6:=zO;obtain rfl:gk=0:=zO;have hfin:=HM.done rfl;have HW2:=zH (show OwnW wr wa.heap.size A m c (dw (i+1)).1 by rw [<- hfin];exact HW.out);have HT2:=zH (show OwnT wr wa.heap.size A' m c' (dw (i+1)).2 by rw [<- hfin];exact HT.out);clear hW hT hB hM hX hK hfin HM;go_wp2_with fail;go_roundg (gq - 1)
      all_goals first
       |omega
       |exact ⟨i+1,m,_,_,_,_,zO,by go_num,rfl,rfl,HW2.out,HT2.out,HX.out,HK.out,HB.out,lR⟩
  ·obtain rfl:i=24:=zO;have hm:m=24:=by have:=hW.1;rw [uO] at this;omega
   subst hm;have HMEM:=zH (show r ∈ (dw 24).2 by rw [bfs24.2];exact yG HOK.out);clear hW hT hB hX hK;go_wp2_with fail;go_ret2;exact ⟨24,24,A,c,A',c',rfl,zO,HMEM,HW.base_ lwa,HT.base_ lwa,aa BAa HB⟩
end Go.Proofs.YtmenmibfkojnoaaGreat
