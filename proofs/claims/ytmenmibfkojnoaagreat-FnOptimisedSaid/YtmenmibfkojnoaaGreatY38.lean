/- Plain facts on the search of the 24 word. -/
import Derived.Test.YtmenmibfkojnoaaGreatY37
set_option maxHeartbeats 16000000
set_option maxRecDepth 100000
namespace Go.Proofs.YtmenmibfkojnoaaGreat
open Go.RowKit
set_option linter.unusedVariables false
def Vs:Bool:=(List.range 25).all fun i=>decide ((dw i).1.length=(dw i).2.length) && (decide ((dw i).1=allW.take (dw i).1.length) && (decide ((dw i).2=allT.take (dw i).2.length) && (decide ((dw i).2.length<=24) && (decide (i=24) || decide (i < (dw i).1.length)))))
theorem Oy:Vs=true:=by decide +kernel
theorem px {i:Nat} (h:i<=24):(dw i).1.length=(dw i).2.length/\(dw i).1=allW.take (dw i).1.length/\(dw i).2=allT.take (dw i).2.length/\(dw i).2.length<=24/\(i=24\/i < (dw i).1.length):=by
 have:=List.all_eq_true.1 Oy i (List.mem_range.2 zO);simp only [Bool.and_eq_true,decide_eq_true_eq,Bool.or_eq_true] at this;exact this
theorem bfs24:(dw 24).1=allW/\(dw 24).2=allT:=by
 unfold allW allT;exact ⟨rfl,rfl⟩
theorem uO:(dw 24).1.length=24:=by rw [bfs24.1];exact j8
theorem uP (s:Dt) (i:Nat) (k:Int):s.1 <+: (gZ s i k).1/\s.2 <+: (gZ s i k).2:=by
 unfold gZ;split
 ·exact ⟨List.prefix_refl _,List.prefix_refl _⟩
 ·exact ⟨List.prefix_append _ _,List.prefix_append _ _⟩
theorem ti:∀ (l:List Int) (s:Dt) (i:Nat),s.1 <+: (se s i l).1/\s.2 <+: (se s i l).2
 |[],s,i=>⟨List.prefix_refl _,List.prefix_refl _⟩
 |k :: r,s,i=>by
  obtain ⟨a,b⟩:=uP s i k;obtain ⟨c,d⟩:=ti r (gZ s i k) i;exact ⟨a.trans c,b.trans d⟩
theorem FU {s:Dt} (i:Nat) (k:Int) (h:s.1.length=s.2.length):(gZ s i k).1.length=(gZ s i k).2.length:=by
 unfold gZ;split
 ·exact h
 ·simp [h]
theorem qf {t:List Pq} (h:t ∈ allT):ed 1 t:=by
 obtain ⟨i,hi,e⟩:=List.mem_iff_getElem.1 h;rw [nX] at hi;have:=(nW hi).2.2.1;rw [List.getD_eq_getElem?_getD,List.getElem?_eq_getElem (by rw [nX];exact hi),e] at this;exact this
theorem ij {x:List Gt} (h:x ∈ allW):x.length<=4/\∀ g ∈ x,bF 1 g=true/\bh g.k=true:=by
 obtain ⟨i,hi,e⟩:=List.mem_iff_getElem.1 h;rw [j8] at hi;obtain ⟨_,_,_,_,h5,h6⟩:=nW hi;rw [List.getD_eq_getElem?_getD,List.getElem?_eq_getElem (by rw [j8];exact hi),e] at h5 h6;refine ⟨h6,fun g hg=>?_⟩;obtain ⟨a,b⟩:=h5 g hg;rw [b];unfold kinds6 at a;simp at a;exact eh zO
def MidB (i:Nat) (s:Dt) (l:List Int):Prop:=se s i l=dw (i+1)/\s.1.length=s.2.length/\i < s.1.length
theorem MidB.all {i:Nat} {s:Dt} {l:List Int} (h:MidB i s l) (hi:i < 24):(∀ x ∈ s.1,x ∈ allW)/\(∀ t ∈ s.2,t ∈ allT)/\s.2.length<=24:=by
 obtain ⟨h1,h2,h3⟩:=h;obtain ⟨b1,b2,b3,b4,_⟩:=px (i:=i+1) zO;obtain ⟨p1,p2⟩:=ti l s i;rw [h1] at p1 p2;refine ⟨fun x hx=>?_,fun t ht=>?_,?_⟩
 ·have:=p1.subset hx;rw [b2] at this;exact List.mem_of_mem_take this
 ·have:=p2.subset ht;rw [b3] at this;exact List.mem_of_mem_take this
 ·have:=p2.length_le;omega
theorem MidB.start {i:Nat} (hi:i < 24):MidB i (dw i) kinds6:=by
 obtain ⟨b1,_,_,_,b5⟩:=px (i:=i) zO;exact ⟨rfl,b1,zO⟩
theorem zt {k:Nat} (h:k < 6):kinds6.drop k=((k:Int)+1) :: kinds6.drop (k+1):=by
 obtain rfl | rfl | rfl | rfl | rfl | rfl:k=0\/k=1\/k=2\/k=3\/k=4\/k=5:=zO
 all_goals rfl
theorem MidB.next {i k:Nat} {s:Dt} (h:MidB i s (kinds6.drop k)) (hk:k < 6):MidB i (gZ s i ((k:Int)+1)) (kinds6.drop (k+1)):=by
 obtain ⟨h1,h2,h3⟩:=h;rw [zt hk] at h1;refine ⟨h1,FU i _ h2,?_⟩;have:=(uP s i ((k:Int)+1)).1.length_le;omega
theorem MidB.done {i k:Nat} {s:Dt} (h:MidB i s (kinds6.drop k)) (hk:k=6):s=dw (i+1):=by
 subst hk;exact h.1
theorem cC {w:World} {D:Option Addr} {d:Nat} {B:Nat} {t:List Pq} (h:w.ownsRow B 151 4 (.slice D 2 d) 2 (af (dP 1 t))):RdG w D 2 (dP 1 t):=RdG.own h
theorem FV {l:List (List Pq)} {x u:List Pq}:(l++[x]).contains u=(l.contains u || decide (x=u)):=by
 rw [Bool.eq_iff_iff];simp only [List.contains_iff_mem,List.mem_append,List.mem_singleton,Bool.or_eq_true,decide_eq_true_eq];exact ⟨fun h=>h.imp id Eq.symm,fun h=>h.imp id Eq.symm⟩
theorem kK {w':World} {base g:Nat} {e t:TypeId} {sz n:Nat} {v v0 v1 u0 u1:Value} {xs:List Value} (h:w'.ownsRow base e sz v n xs) (hB:Bx w' g t #[v0,v1]) (hne:e ≠ t):(S2 w' g u0 u1).ownsRow base e sz v n xs:=by
 have h1:Bx (w'.setCell ⟨g,0,none⟩ u0) g t #[u0,v1]:=by simpa using hB.set_ 0 u0
 exact aM (aM h hB hne 0 u0) h1 hne 1 u1
theorem Td (w:World):Calls Tryz.prog 163 #[] w fun e w'=>∃ A c,e=.returned (.slice A 24 c)/\OwnW w' w.heap.size A 24 c allW/\Below w w w':=by
 have hz2:(Value.agg #[(0:Int),.slice none 0 0]).cells.size=2:=rfl;have hz1:(Value.slice none 0 0).cells.size=1:=rfl;have hz4:(Value.agg #[(0:Int),(0:Int),(0:Int),(0:Int)]).cells.size=4:=rfl;have B0:=zH (show Below w w ((w.alloc (.cells #[] 39)).alloc (.cells #[.slice (some ⟨w,0,none⟩) 0 0] 24)) from (((zW).alloc zR _).alloc zI _));have W0:=zH (show OwnW ((w.alloc (.cells #[] 39)).alloc (.cells #[.slice (some ⟨w,0,none⟩) 0 0] 24)) w.heap.size (some ⟨w.heap.size+1,0,none⟩) 1 1 [[]] from ⟨rfl,[.slice (some ⟨w,0,none⟩) 0 0],by
   have:=World.ownsRow_lit (base:=w.heap.size) (e:=24) (size:=1) (w.alloc (.cells #[] 39)) #[.slice (some ⟨w,0,none⟩) 0 0] 1 zI zM rfl;rw [World.size_alloc] at this;exact this,fun k x hx=>by
   have hk:k < 1:=(List.getElem?_eq_some_iff.1 hx).1;obtain rfl:k=0:=zO;injection hx with hx;subst hx
   exact ⟨_,0,rfl,(World.ownsRow_lit w #[] 0 zO zM rfl).alloc _⟩⟩)
 go_enter Tryz.func163,Tryz.ntmps163;go_wp2_with fail;refine (wh 1 _ zO).mono ?_;rintro e w1 ⟨A0,c0,rfl,o1,b1⟩;have lR:w.heap.size<=w1.heap.size:=Nat.le_trans B0.size b1.size;have W1:=zH ((W0.below b1).alloc (.cells #[(1:Int),.slice A0 2 c0] 73));have B1:=zH ((br B0 zJ b1).alloc lR (.cells #[(1:Int),.slice A0 2 c0] 73));have T1:=zH (show OwnT (w1.alloc (.cells #[(1:Int),.slice A0 2 c0] 73)) w.heap.size (some ⟨w1,0,none⟩) 1 1 [ch 1] from ⟨rfl,[.slice A0 2 c0],rfl,World.ownsRow_lit w1 #[(1:Int),.slice A0 2 c0] 1 lR zM rfl,fun k x hx=>by
   have hk:k < 1:=(List.getElem?_eq_some_iff.1 hx).1;obtain rfl:k=0:=zO;injection hx with hx;subst hx
   exact ⟨_,c0,rfl,ae (o1.alloc _) zJ⟩⟩)
 clear o1 b1 W0 B0;go_wp2_with fail;go_loopg [1,2,3] 24 (fun g v1 v2 v3 wr=>∃ (i m:Nat) (A:Option Addr) (c:Nat) (A':Option Addr) (c':Nat),i+g=24/\v3=.int .i64 i/\v1=.slice A m c/\v2=.slice A' m c'/\OwnW wr w.heap.size A m c (dw i).1/\OwnT wr w.heap.size A' m c' (dw i).2/\Below w w wr/\w.heap.size<=wr.heap.size)
 case atStart=>exact ⟨0,1,_,_,_,_,zO,rfl,rfl,rfl,W1.out,T1.out,B1.out,zJ⟩
 case round =>
  clear W1 T1 B1 lR;obtain ⟨i,m,A,c,A',c',hi,rfl,rfl,rfl,hW,hT,hB,lR⟩:=hrel;have HW:=zH hW;have HT:=zH hT;have HB:=zH hB;by_cases hlt:i < 24
  ·have hm:i < m:=by have:=(MidB.start hlt).2.2;have:=hW.1;omega
   have hm24:m<=24:=by have:=(px (i:=i) zO).2.2.2.1;have:=hT.1;omega
   have HM:=zH (MidB.start hlt);have imI:(i:Int) < (m:Int):=zO;clear hW hT hB;obtain ⟨gq,rfl⟩:∃ q,q=gk:=⟨_,rfl⟩;go_wp2_with fail;go_loopg [1,2,4] 6 (fun g v1 v2 v4 ws=>∃ (k m:Nat) (s:Dt) (A:Option Addr) (c:Nat) (A':Option Addr) (c':Nat),k+g=6/\v4=.int .i64 ((k:Int)+1)/\v1=.slice A m c/\v2=.slice A' m c'/\MidB i s (kinds6.drop k)/\OwnW ws w.heap.size A m c s.1/\OwnT ws w.heap.size A' m c' s.2/\Below w w ws/\w.heap.size<=ws.heap.size)
   case atStart=>exact ⟨0,m,_,_,_,_,_,zO,rfl,rfl,rfl,HM.out,HW.out,HT.out,HB.out,lR⟩
   case round =>
    clear HW HT HB HM imI hm hm24 lR;obtain ⟨k,m,s,A,c,A',c',hk,rfl,rfl,rfl,hM,hW,hT,hB,lR⟩:=hrel;have HW:=zH hW;have HT:=zH hT;have HB:=zH hB;have HM:=zH hM;by_cases hk6:k < 6
    ·have hm24:m<=24:=by have:=(hM.all hlt).2.2;have:=hT.1;omega
     have him:i < m:=by have:=hM.2.2;have:=hW.1;omega
     have NX:=zH (hM.next hk6);obtain ⟨t,ht⟩:=aV (l:=s.2) (k:=i) (by rw [hT.1];exact him);obtain ⟨x,hx⟩:=aV (l:=s.1) (k:=i) (by rw [hW.1];exact him);have OKT:=zH (qf ((hM.all hlt).2.1 t (List.mem_of_getElem? ht)));have OKX:=zH (ij ((hM.all hlt).1 x (List.mem_of_getElem? hx)));obtain ⟨b,off,D,d,rfl,hbl,y0,y1,o1⟩:=hT.at_ ht;obtain ⟨u,hu⟩:∃ u,di 1 (g1 ((k:Int)+1)) t=u:=⟨_,rfl⟩;have HU:=zH hu;have HG:=zH (eh (k:=(k:Int)+1) zO);have HX:=zH hx;have HST:=zH (show gZ s i ((k:Int)+1)=if s.2.contains u=true then s else (s.1++[x++[g1 ((k:Int)+1)]],s.2++[u]) by
      have e1:s.2.getD i []=t:=by rw [List.getD_eq_getElem?_getD,ht];rfl
      have e2:s.1.getD i []=x:=by rw [List.getD_eq_getElem?_getD,hx];rfl
      unfold gZ;rw [e1,e2,hu])
     have OT:=zH o1;have imI:(i:Int) < (m:Int):=zO;have k61:(k:Int)+1<=6:=zO;have k10:(1:Int)<=(k:Int)+1:=zO;have HK:=zH hk;clear hW hT hB hM ht hx hu o1 hk;go_upto_region 9 with fail
     have TK:=fun (w5:World) (b5:Below wr wr w5)=>(⟨(b5.cell (p:=⟨b,off+i * 2,none⟩) hbl).trans y0,(b5.cell (p:=⟨b,off+i * 2+1,none⟩) hbl).trans y1⟩:w5.cell? ⟨b,off+i * 2,none⟩=some (.int .i64 1)/\w5.cell? ⟨b,off+i * 2+1,none⟩=some (.slice D 2 d))
     have TK0:=TK _ (Below.refl wr wr).drew;have TR:=fun (w5:World) (b5:Below wr wr w5)=>cC (ab OT.out b5)
     have BA:=(Below.refl wr wr).alloc zR ZO.zT
     go_cut [5] (fun s5 wx=>∃ P D5 d5,s5=.pointer (some ⟨P,0,none⟩)/\Bx wx P 73 #[(1:Int),.slice D5 2 d5]/\wx.ownsRow w 151 4 (.slice D5 2 d5) 2 (af (dP 1 u))/\Below wr wr wx)
     case first =>
      go_region_held3 (fun w'=>w'.cell? ⟨b,off+i * 2,none⟩=some (.int .i64 1)/\w'.cell? ⟨b,off+i * 2+1,none⟩=some (.slice D 2 d))
       (first
        |exact TK0
        |exact TK _ BA.drew
        |exact TK _ b5
        |exact TK _ b6
        |exact TK _ (b5.alloc b5.size _)
        |exact TK _ (b5.alloc b5.size _).drew
        |exact TK _ (b6.alloc b6.size _)
        |exact TK _ (b6.alloc b6.size _).drew
        |exact TK _ (ay b6 zR _ _)
        |exact TK _ (ay b6 b5.size _ _)
        |exact TK _ (ay b6 zR _ _).drew
        |exact TK _ (ay b6 b5.size _ _).drew
        |go_keep)
       (first
        |(go_at_call 85;refine (jo _ _ _).mono ?_;rintro e w5 ⟨rfl,b50⟩;(first | (have b5:=aa (Below.refl wr wr).drew b50) | (have b5:=aa BA.drew b50) | (have b5:=aa BA b50)))
        |(go_at_call 115;refine (j7 1 2 d D t (g1 ((k:Int)+1)) _ zO (by first | exact TR _ b5 | exact TR _ (b5.alloc b5.size _) | exact TR _ (b5.alloc b5.size _).drew) (ao OT.out) OKT.out HG.out.1 HG.out.2).mono ?_;rw [HU.out];intro e w6 hret;obtain ⟨D5,d5,rfl,o6,b60⟩:=RetT1.of hret;clear hret;(first | (have b6:=aa b5 b60) | (have b6:=aa (b5.alloc b5.size ZO.zT) b60));(first | (have PB:Bx w6 wr 73 #[(0:Int),.slice none 0 0]:=((Bx.new wr _ _).drew.below b50).below b60;obtain ⟨q0,q1,q2,q3⟩:=PB.two) | (have PB:Bx w6 w5 73 #[(0:Int),.slice none 0 0]:=(Bx.new w5 _ _).below b60;obtain ⟨q0,q1,q2,q3⟩:=PB.two) | skip))
        |fail)
      all_goals go_wp2_with fail
      all_goals go_meet
      all_goals first
       |exact ⟨_,D5,d5,rfl,Bx.new _ _ _,ae (o6.alloc _) (Nat.le_trans lR b5.size),b6.alloc b6.size _⟩
       |exact ⟨_,D5,d5,rfl,PB.set2 _ _,kK (ae o6 (Nat.le_trans lR b5.size)) PB zD,ay b6 zR _ _⟩
       |exact ⟨_,D5,d5,rfl,PB.set2 _ _,kK (ae o6 (by have:=b5.size;simp;omega)) PB zD,ay b6 b5.size _ _⟩
     case rest =>
      obtain ⟨P,D5,d5,rfl,hP,hO,hB5⟩:=hcut;have W5:=zH (HW.below hB5);have T5:=zH (HT.below hB5);have B5:=zH (br HB lR hB5);have lR5:w.heap.size<=wc.heap.size:=Nat.le_trans lR hB5.size;have P5:=zH hP;have O5:=zH hO;clear TK TK0 TR BA y0 y1 hP hO hB5 HW HT HB OT hbl lR;obtain ⟨gp,rfl⟩:∃ q,q=gk:=⟨_,rfl⟩;obtain ⟨w7,rfl⟩:∃ w7,w7=wc:=⟨_,rfl⟩;obtain ⟨K,hK⟩:∃ K,s.2.contains u=K:=⟨_,rfl⟩;have HKK:=zH hK;go_upto_block 4 with fail
      go_cut [7] from 36 to 46 (fun v7 wx=>v7=.bool K/\Below w7 w7 wx)
      case first =>
       clear HST HU HG HX NX HM OKX;go_wp2_with fail;go_loopg [7,36] m (fun g v7 v36 wx=>∃ (j:Nat),j+g=m/\v36=.int .i64 j/\v7=.bool ((s.2.take j).contains u)/\Below w7 w7 wx)
       case atStart=>exact ⟨0,zO,rfl,rfl,zW⟩
       case round =>
        obtain ⟨j,hj,rfl,rfl,hb⟩:=hrel;have HBj:=zH hb;by_cases hjm:j < m
        ·obtain ⟨tj,htj⟩:=aV (l:=s.2) (k:=j) (by rw [T5.out.1];exact hjm);obtain ⟨b',off',D',d',hA,hbl',y0,y1,o'⟩:=(T5.below hb).at_ htj;have OJ:=zH o';have HSN:=zH (show (s.2.take (j+1)).contains u=((s.2.take j).contains u || decide (tj=u)) by rw [db htj,FV]);have jmI:(j:Int) < (m:Int):=zO;obtain ⟨rfl,rfl⟩:b=b'/\off=off':=by injection hA with hA;injection hA with h1 h2;exact ⟨h1,h2⟩
         have PJ:=zH (fun (w5:World) (b5:Below w7 w7 w5)=>(P5.below b5).two);obtain ⟨p0,p1,_⟩:=PJ.out _ hb;have PA:=(P5.below hb).alloc (.cells #[(1:Int),.slice D' 2 d'] 73);obtain ⟨p0',p1',_⟩:=PA.two;clear hb htj o' hA PA;cases hkn:(s.2.take j).contains u
         ·rw [hkn] at HSN;go_wp2_with fail;refine (DD 1 2 d' d5 D' D5 tj u _ ((cC OJ).alloc _) (((cC O5).below HBj).alloc _) zO).mono ?_;rintro e w8 ⟨rfl,b8⟩;go_wp2_with fail;go_roundg (gk - 1)
          all_goals first
           |omega
           |exact ⟨j+1,zO,by go_num,by rw [HSN.out];rfl,aa (HBj.alloc HBj.size _) b8⟩
         ·rw [hkn] at HSN;go_wp2_with fail;go_roundg (gk - 1)
          all_goals first
           |omega
           |exact ⟨j+1,zO,by go_num,by rw [HSN.out];rfl,HBj.alloc HBj.size _⟩
        ·obtain rfl:m=j:=zO;have hKj:(s.2.take m).contains u=K:=by rw [List.take_of_length_le (by rw [T5.out.1];exact zR)];exact HKK.out
         have HKJ:=zH hKj;rw [hKj];clear hKj hb;go_wp2_with fail;go_meet;exact ⟨rfl,HBj⟩
      case rest =>
       obtain ⟨rfl,hb9⟩:=hcut;have W9:=zH (W5.below hb9);have T9:=zH (T5.below hb9);have B9:=zH (br B5 lR5 hb9);have P9:=zH (P5.below hb9);have O9:=zH (ab O5 hb9);have lR9:w.heap.size<=wc.heap.size:=Nat.le_trans lR5 hb9.size;clear W5 T5 B5 P5 O5 hb9 lR5;obtain ⟨w9,rfl⟩:∃ w9,w9=wc:=⟨_,rfl⟩;cases K
       ·have HS9:=zH (show gZ s i ((k:Int)+1)=(s.1++[x++[g1 ((k:Int)+1)]],s.2++[u]) by rw [HST.out,HKK.out,if_neg zD]);have NX2:=NX.out;rw [HS9.out] at NX2;have NX9:=zH NX2;obtain ⟨bw,ow,Dx,dx,rfl,hbw,yw,ox⟩:=W9.at_ HX.out;have OX:=zH ox;have hx4:x.length<=4:=OKX.out.1;clear NX2 hK ox;go_wp2_with fail;refine (dB Dx x.length dx x _ (RdG.own OX) zO).mono ?_;rintro e wA ⟨A6,c6,rfl,oA,bA⟩;have OA:=zH oA;have BA:=zH bA;clear oA bA;go_wp2_with fail;refine (jo _ _ _).mono ?_;rintro e wB ⟨rfl,bB⟩;have OB:=zH ((ab OA bB).alloc (.cells #[.int .i64 ((k:Int)+1),(0:Int),(0:Int),(0:Int)] 39));have BB:=zH ((aa BA bB).alloc (aa BA bB).size (.cells #[.int .i64 ((k:Int)+1),(0:Int),(0:Int),(0:Int)] 39));clear OA BA bB yw;have s9B:=BB.size;simp only [World.size_alloc] at s9B;have lR9':=lR9
        go_wp2_with (first
         |(at_builtin;refine ah rfl (.tmp 54) (.tmp 57) 24 rfl Tryz.underlying24 ak hz4 zD rfl OB.out rfl (Rd.lit wB 39 #[.int .i64 ((k:Int)+1),(0:Int),(0:Int),(0:Int)] 1 4 rfl) zV zO zD zS ?_;intro A7 c7 wC oC gC;have BC:=zH (ag BB.out BB.size OB.out zR gC);have OC:=zH oC;clear oC gC;obtain ⟨hlw,vs,hv,hiw⟩:=(W9.below BC.out).alloc (.cells #[.slice A7 (x.length+1) c7] 24);have HV:=zH hv;have HI:=zH hiw;have HLW:=zH hlw;clear hv hiw hlw;have lRC:=Nat.le_trans lR9 BC.size)
         |(at_builtin;refine ah rfl (.tmp 49) (.tmp 59) 42 rfl Tryz.underlying42 tg hz1 zD rfl HV.out rfl (Rd.lit wC 24 #[.slice A7 (x.length+1) c7] 1 1 rfl) zV zO zD zS ?_;intro A8 c8 wD oD gD;have PD:=az HV.out gD ((P9.below BC.out).alloc _) zD;obtain ⟨q0,q1,_⟩:=PD.two;have WD:=zH (OwnW.push (x:=x++[g1 ((k:Int)+1)]) (D:=A7) (d:=c7) HLW.out HV.out HI.out (by rw [List.length_append,av];exact ae (OC.alloc _) lR9) gD (by rw [List.length_append];exact oD));have TD:=zH (((T9.below BC.out).alloc _).grown HV.out zD zD gD);have OD:=zH (jD ((ab O9.out BC.out).alloc _) HV.out zD gD);have BD:=zH (ag ((br B9.out lR9 BC.out).alloc lRC _) zJ HV.out zR gD);have lRD:=Nat.le_trans (Nat.le_succ_of_le lRC) (by have:=gD.size;simpa using this);obtain ⟨hlt2,vt,h0t,hvt,hit⟩:=TD.alloc (.cells #[(1:Int),.slice D5 2 d5] 73);have HVT:=zH hvt;have HIT:=zH hit;have HLT:=zH hlt2;have H0T:=zH h0t;clear hvt hit hlt2 h0t PD oD gD)
         |(at_builtin;refine ah rfl (.tmp 61) (.tmp 63) 179 rfl Tryz.underlying179 KI hz2 zD rfl HVT.out rfl (Rd.lit wD 73 #[(1:Int),.slice D5 2 d5] 1 2 rfl) zV zO zD zS ?_;intro A9 c9 wE oE gE;have TE:=zH (OwnT.push (t:=u) HLT.out H0T.out HVT.out HIT.out (OD.alloc _) gE oE);have WE:=zH ((WD.alloc _).grown HVT.out zD zD gE);have BE:=zH (ag (BD.alloc lRD _) zJ HVT.out zR gE);have lRE:=Nat.le_trans (Nat.le_succ_of_le lRD) (by have:=gE.size;simpa using this)))
        go_roundg (gp - 1)
        all_goals first
         |(have:=HK.out;omega)
         |exact ⟨k+1,m+1,_,_,_,_,_,by have:=HK.out;omega,by go_num,rfl,rfl,NX9.out,WE.out,TE.out,BE.out,lRE⟩
       ·have HS9:=zH (show gZ s i ((k:Int)+1)=s by rw [HST.out,HKK.out,if_pos rfl]);have NX2:=NX.out;rw [HS9.out] at NX2;have NX9:=zH NX2;clear NX2 hK;go_wp2_with fail;go_roundg (gp - 1)
        all_goals first
         |(have:=HK.out;omega)
         |exact ⟨k+1,m,s,_,_,_,_,by have:=HK.out;omega,by go_num,rfl,rfl,NX9.out,W9.out,T9.out,B9.out,lR9⟩
    ·obtain rfl:k=6:=zO;obtain rfl:gk=0:=zO;have hfin:=HM.done rfl;have HW2:=zH (show OwnW wr w.heap.size A m c (dw (i+1)).1 by rw [<- hfin];exact HW.out);have HT2:=zH (show OwnT wr w.heap.size A' m c' (dw (i+1)).2 by rw [<- hfin];exact HT.out);clear hW hT hB hM hfin HM;have h66:¬ ((6:Int)+1<=6):=zO;go_wp2_with fail;go_roundg (gq - 1)
     all_goals first
      |omega
      |exact ⟨i+1,m,_,_,_,_,zO,by go_num,rfl,rfl,HW2.out,HT2.out,HB.out,lR⟩
  ·obtain rfl:i=24:=zO;have hm:m=24:=by have:=hW.1;rw [uO] at this;omega
   subst hm;have HE:=zH (show OwnW wr w.heap.size A 24 c allW by rw [<- bfs24.1];exact hW);clear hW hT hB;go_wp2_with fail;go_ret;exact ⟨_,_,rfl,HE,HB⟩
theorem Ed {r:List Pq} (h:ed 1 r):∃ K,K < 24/\allW[K]? = some (cw r)/\∀ k,k < 24->(allT.getD k []=r ↔ k=K):=by
 obtain ⟨K,hK,e⟩:=sh h;have hidx:I0 r allT=K:=by rw [e];exact (nW hK).2.1
 refine ⟨K,hK,?_,fun k hk=>⟨fun hk2=>?_,fun hk2=>by rw [hk2];exact e.symm⟩⟩
 ·unfold cw;rw [hidx,List.getD_eq_getElem?_getD,List.getElem?_eq_getElem (by rw [j8];exact hK)];rfl
 ·have:=(nW hk).2.1;rw [hk2,hidx] at this;exact this.symm
theorem KJ {k:Nat} {x:List Gt} (h:allW[k]? = some x):k < 24/\bH 1 x (ch 1)=allT.getD k []:=by
 have hk:=(List.getElem?_eq_some_iff.1 h).1;rw [j8] at hk;have:=(nW hk).1;rw [List.getD_eq_getElem?_getD,h] at this;exact ⟨hk,this⟩
theorem Cr (c:Nat) (A:Option Addr) (r:List Pq) (w:World) (hr:RdG w A 2 (dP 1 r)) (hok:ed 1 r) :
  Calls Tryz.prog 133 #[.agg #[(1:Int),.slice A 2 c]] w (RetGT (cw r) w):=by
 have HR:=zH hr;have X0:=zH (Bx.new w 73 #[(1:Int),.slice A 2 c]);have B0:=zH (show Below w w (w.alloc (.cells #[(1:Int),.slice A 2 c] 73)) from (zW).alloc zR _);obtain ⟨K,hK,hKW,hKT⟩:=Ed hok;have HKW:=zH hKW;have HKT:=zH hKT;clear hr hok hKW hKT;go_enter Tryz.func133,Tryz.ntmps133;go_wp2_with fail;refine (Td _).mono ?_;rintro e w1 ⟨A1,c1,rfl,hW1,b1⟩;have W1:=zH hW1;have X1:=zH (X0.below b1);have B1:=zH (aa B0 b1);have lb:=B0.size;obtain ⟨R,hR⟩:∃ R,(w.alloc (.cells #[(1:Int),.slice A 2 c] 73)).heap.size=R:=⟨_,rfl⟩;rw [hR] at W1 lb;clear hW1 b1 hR X0 B0;go_wp2_with fail;go_loopg [10] 24 (fun g i wr=>∃ (k:Nat),k+g=24/\i=.int .i64 k/\k<=K/\OwnW wr R A1 24 c1 allW/\Bx wr w 73 #[(1:Int),.slice A 2 c]/\Below w w wr)
 case atStart=>exact ⟨0,zO,rfl,zO,W1.out,X1.out,B1.out⟩
 case round =>
  clear W1 X1 B1;obtain ⟨k,hk,rfl,hkK,hW,hX,hB⟩:=hrel;have hlt:k < 24:=zO;obtain ⟨x,hx⟩:=aV (l:=allW) (k:=k) (by rw [j8];exact hlt);obtain ⟨b,off,D,d,rfl,hbl,y0,o0⟩:=hW.at_ hx;have HX:=zH hX;have HB:=zH hB;have HW:=zH hW;have HO:=zH o0;have OKX:=zH (ij (List.mem_of_getElem? hx));have HRUN:=zH (KJ hx).2;have HXX:=zH hx;have hx4:x.length<=4:=OKX.out.1;have k24:(k:Int) < 24:=zO;clear hW hX hB hx o0;go_wp2_with fail;refine (uN x.length d D x _ (RdG.own HO) zO OKX.out.2).mono ?_;rw [HRUN.out];rintro e w2 ⟨A2,c2,rfl,o2,b2⟩;have HX2:=zH ((HX.below b2).alloc (.cells #[(1:Int),.slice A2 2 c2] 73));have HB2:=zH ((aa HB b2).alloc (aa HB b2).size (.cells #[(1:Int),.slice A2 2 c2] 73));have HW2:=zH ((HW.below b2).alloc (.cells #[(1:Int),.slice A2 2 c2] 73));have HO2:=zH (ab HO (b2.alloc b2.size (.cells #[(1:Int),.slice A2 2 c2] 73)))
  have OT:=zH (o2.alloc (.cells #[(1:Int),.slice A2 2 c2] 73));obtain ⟨x0,x1,_⟩:=HX2.two;clear o2 b2 HX HB HW HO y0;go_wp2_with fail;refine (DD 1 2 c2 c A2 A (allT.getD k []) r _ (cC OT) (HR.below HB2) zO).mono ?_;rintro e w3 ⟨rfl,b3⟩;have HX3:=zH (HX2.below b3);have HB3:=zH (aa HB2 b3);have HW3:=zH (HW2.below b3);have HO3:=zH (ab HO2 b3);clear b3 HX2 HB2 HW2 HO2 OT x0 x1;by_cases he:k=K
  ·have hd:decide (allT.getD k []=r)=true:=decide_eq_true ((HKT.out k hlt).2 he);have hcw:x=cw r:=by have:=HXX.out;rw [he,HKW.out] at this;injection this with this;exact this.symm
   have HCW:=zH hcw;rw [hd];clear hd hcw he;go_wp2_with fail;go_ret2;rw [<- HCW.out];exact ⟨D,d,rfl,ae HO3 lb,HB3⟩
  ·have hd:decide (allT.getD k []=r)=false:=decide_eq_false (fun h=>he ((HKT.out k hlt).1 h));rw [hd];have hk2:k+1<=K:=zO;clear hd he;go_wp2_with fail;go_roundg (gk - 1)
   all_goals first
    |omega
    |exact ⟨k+1,zO,by go_num,hk2,HW3.out,HX3.out,HB3.out⟩
end Go.Proofs.YtmenmibfkojnoaaGreat
