/- Contract of l28First (spec). Contract of l28Second (spec). -/
import Derived.Test.YtmenmibfkojnoaaGreatV27
import Derived.Test.YtmenmibfkojnoaaGreatV28
import Derived.Deep.CutBlock
set_option maxHeartbeats 16000000
namespace Go.Proofs.YtmenmibfkojnoaaGreat
open Go.RowKit
set_option linter.unusedVariables false
set_option maxRecDepth 100000 in
theorem s_First (R W n B0 q:Nat) (S0:SSt) (w0 w:World) (hn:1<=n/\n<=4) (hq:q < n) (h:SI R W 159 n B0 S0 w0 w) (hB:B0<=500) :
  Calls Tryz.prog 152 #[.pointer (some ⟨W,0,none⟩),.int .i64 (q:Nat)] w fun e w'=>e=.returned (.tuple #[])/\SI R W 159 n (B0+9) (firstQ n q S0) w0 w':=by
 obtain ⟨S1,eS1⟩:∃ S,loopK (f1 n q) q (n - q) S0=S:=⟨_,rfl⟩
 obtain ⟨F,eF⟩:∃ F,fndX S1.1 q q (n - 1 - q)=F:=⟨_,rfl⟩
 have hF1:q<=F/\F<=n - 1:=by have:=fndX_bd S1.1 q (n - 1 - q) q;omega
 obtain ⟨S2,eS2⟩:∃ S,sw1 n q S1=S:=⟨_,rfl⟩
 have HE2:=zH (show (if F=q then S1 else doS n S1 11 q F)=S2 by rw [<- eS2,<- eF];rfl)
 obtain ⟨S3,eS3⟩:∃ S,loopK (f2 n q) (q+1) (n - (q+1)) S2=S:=⟨_,rfl⟩
 have HE3:=zH (show firstQ n q S0=S3 by rw [<- eS3,<- eS2,<- eS1];rfl)
 have HF:=zH eF
 clear eF
 have HS1:=zH eS1
 clear eS1
 have HS3:=zH eS3
 clear eS3
 clear eS2
 have n1:(1:Int)<=(n:Int):=by omega
 have n4:(n:Int)<=4:=by omega
 have q0:(0:Int)<=(q:Int):=by omega
 have qn:(q:Int) < (n:Int):=by omega
 have HS:=zH h
 clear h
 obtain ⟨A0,c0,A1,c1,hW⟩:=HS.out.2.2.1
 obtain ⟨t0,t1,t2,_⟩:=hW.1.three
 clear hW
 go_enter Tryz.func152,Tryz.ntmps152
 go_upto_block 0 with fail
 go_cut [5] from 14 to 45 (fun i wx=>SI R W 159 n (B0+1 * n) S1 w0 wx)
 case first =>
  go_wp2_with fail
  go_loopg [5] (n - (q)) (fun m i wr=>∃ (k:Nat) (s:SSt),k+m=n/\i=.int .i64 k/\q<=k/\loopK (f1 n q) k m s=S1/\SI R W 159 n (B0+1 * k) s w0 wr)
  case atStart=>exact ⟨q,_,by omega,by go_num,by omega,HS1.out,HS.out.mono (by omega)⟩
  case round =>
   clear HS HS1
   obtain ⟨k,s,hk,rfl,hqk,hfin,hS⟩:=hrel
   have HS:=zH hS
   clear hS
   by_cases hlt:k < n
   ·have NX:=zH (loopK_next hlt hk hfin)
    clear hfin
    obtain ⟨a,ha,hoa,A0,c0,A1,c1,hW⟩:=HS.out.row (i:=q) (by omega)
    have HW:=zH hW
    have HA:=zH ha
    have hx16:=(okQ16 hn.2 hoa).1
    have hz16:=(okQ16 hn.2 hoa).2.1
    obtain ⟨b,off,rfl⟩:=hW.rd.first (by omega)
    obtain ⟨hbl,y0,y1,y2,y3⟩:=hW.rd.cellsAt (pgs_drop ha)
    simp only [pg] at y0 y1 y2 y3
    obtain ⟨t0,t1,t2,_⟩:=hW.1.three
    have HB:=HA
    have hi1:(q:Int) < ((2 * n:Nat):Int):=by omega
    clear hW ha
    have EX:=zH (xB_at (k:=k) HB.out)
    have EZ:=zH (zB_at (k:=k) HB.out)
    cases hx:bitB a.x k
    ·skip
     cases hz:bitB a.z k
     ·skip
      go_wp2_with fail
      have HP:=zH (Bx.new wr 151 #[.int .i64 (n:Nat),.int .i64 (a.x:Nat),.int .i64 (a.z:Nat),.int .i64 (a.p:Nat)])
      have HS:=zH (HS.out.alloc (.cells #[.int .i64 (n:Nat),.int .i64 (a.x:Nat),.int .i64 (a.z:Nat),.int .i64 (a.p:Nat)] 151))
      clear y0 y1 y2 y3 t0 t1 t2 hbl
      refine (s_28X n k a _ hx16 (by omega)).mono ?_
      rintro e wq ⟨rfl,bq⟩
      have HP:=zH (HP.out.below bq)
      obtain ⟨p0,p1,p2,p3,_⟩:=HP.out.four
      have HS:=zH (HS.out.below bq)
      clear bq
      go_wp2_with fail
      refine (s_28Z n k a _ hz16 (by omega)).mono ?_
      rintro e wq ⟨rfl,bq⟩
      have HP:=zH (HP.out.below bq)
      obtain ⟨p0,p1,p2,p3,_⟩:=HP.out.four
      have HS:=zH (HS.out.below bq)
      clear bq
      go_wp2_with fail
      go_roundg (gk - 1)
      all_goals first
       |omega
       |exact ⟨k+1,_,by omega,by go_num,by omega,by have:=NX.out;rwa [show f1 n q k s=s by unfold f1;(try rw [EX.out]);(try rw [EZ.out]);(try rw [hx]);(try rw [hz]);rfl] at this,HS.out.mono (by omega)⟩
     ·skip
      go_wp2_with fail
      have HP:=zH (Bx.new wr 151 #[.int .i64 (n:Nat),.int .i64 (a.x:Nat),.int .i64 (a.z:Nat),.int .i64 (a.p:Nat)])
      have HS:=zH (HS.out.alloc (.cells #[.int .i64 (n:Nat),.int .i64 (a.x:Nat),.int .i64 (a.z:Nat),.int .i64 (a.p:Nat)] 151))
      clear y0 y1 y2 y3 t0 t1 t2 hbl
      refine (s_28X n k a _ hx16 (by omega)).mono ?_
      rintro e wq ⟨rfl,bq⟩
      have HP:=zH (HP.out.below bq)
      obtain ⟨p0,p1,p2,p3,_⟩:=HP.out.four
      have HS:=zH (HS.out.below bq)
      clear bq
      go_wp2_with fail
      refine (s_28Z n k a _ hz16 (by omega)).mono ?_
      rintro e wq ⟨rfl,bq⟩
      have HP:=zH (HP.out.below bq)
      obtain ⟨p0,p1,p2,p3,_⟩:=HP.out.four
      have HS:=zH (HS.out.below bq)
      clear bq
      go_wp2_with fail
      refine (s_one 4 k _).mono ?_
      rintro e wq ⟨rfl,bq⟩
      have HS:=zH (HS.out.below bq)
      clear bq
      go_wp2_with fail
      refine (s_Do2 R W n (B0+1 * k) _ 4 k 0 _ w0 _ hn HS.out rfl (one_okS hn (by omega) (show (4:Int) ∈ oneKs by decide)).1 (one_okS (q:=k) hn (by omega) (show (4:Int) ∈ oneKs by decide)).2 (by omega)).mono ?_
      rintro e wq ⟨rfl,hq0⟩
      have HS:=zH hq0
      clear hq0
      go_wp2_with fail
      go_roundg (gk - 1)
      all_goals first
       |omega
       |exact ⟨k+1,_,by omega,by go_num,by omega,by have:=NX.out;rwa [show f1 n q k s=doS n s 4 k 0 by unfold f1;(try rw [EX.out]);(try rw [EZ.out]);(try rw [hx]);(try rw [hz]);rfl] at this,HS.out.mono (by omega)⟩
    ·skip
     cases hz:bitB a.z k
     ·skip
      go_wp2_with fail
      have HP:=zH (Bx.new wr 151 #[.int .i64 (n:Nat),.int .i64 (a.x:Nat),.int .i64 (a.z:Nat),.int .i64 (a.p:Nat)])
      have HS:=zH (HS.out.alloc (.cells #[.int .i64 (n:Nat),.int .i64 (a.x:Nat),.int .i64 (a.z:Nat),.int .i64 (a.p:Nat)] 151))
      clear y0 y1 y2 y3 t0 t1 t2 hbl
      refine (s_28X n k a _ hx16 (by omega)).mono ?_
      rintro e wq ⟨rfl,bq⟩
      have HP:=zH (HP.out.below bq)
      obtain ⟨p0,p1,p2,p3,_⟩:=HP.out.four
      have HS:=zH (HS.out.below bq)
      clear bq
      go_wp2_with fail
      refine (s_28Z n k a _ hz16 (by omega)).mono ?_
      rintro e wq ⟨rfl,bq⟩
      have HP:=zH (HP.out.below bq)
      obtain ⟨p0,p1,p2,p3,_⟩:=HP.out.four
      have HS:=zH (HS.out.below bq)
      clear bq
      go_wp2_with fail
      refine (s_28Z n k a _ hz16 (by omega)).mono ?_
      rintro e wq ⟨rfl,bq⟩
      have HP:=zH (HP.out.below bq)
      obtain ⟨p0,p1,p2,p3,_⟩:=HP.out.four
      have HS:=zH (HS.out.below bq)
      clear bq
      go_wp2_with fail
      go_roundg (gk - 1)
      all_goals first
       |omega
       |exact ⟨k+1,_,by omega,by go_num,by omega,by have:=NX.out;rwa [show f1 n q k s=s by unfold f1;(try rw [EX.out]);(try rw [EZ.out]);(try rw [hx]);(try rw [hz]);rfl] at this,HS.out.mono (by omega)⟩
     ·skip
      go_wp2_with fail
      have HP:=zH (Bx.new wr 151 #[.int .i64 (n:Nat),.int .i64 (a.x:Nat),.int .i64 (a.z:Nat),.int .i64 (a.p:Nat)])
      have HS:=zH (HS.out.alloc (.cells #[.int .i64 (n:Nat),.int .i64 (a.x:Nat),.int .i64 (a.z:Nat),.int .i64 (a.p:Nat)] 151))
      clear y0 y1 y2 y3 t0 t1 t2 hbl
      refine (s_28X n k a _ hx16 (by omega)).mono ?_
      rintro e wq ⟨rfl,bq⟩
      have HP:=zH (HP.out.below bq)
      obtain ⟨p0,p1,p2,p3,_⟩:=HP.out.four
      have HS:=zH (HS.out.below bq)
      clear bq
      go_wp2_with fail
      refine (s_28Z n k a _ hz16 (by omega)).mono ?_
      rintro e wq ⟨rfl,bq⟩
      have HP:=zH (HP.out.below bq)
      obtain ⟨p0,p1,p2,p3,_⟩:=HP.out.four
      have HS:=zH (HS.out.below bq)
      clear bq
      go_wp2_with fail
      refine (s_one 5 k _).mono ?_
      rintro e wq ⟨rfl,bq⟩
      have HS:=zH (HS.out.below bq)
      clear bq
      go_wp2_with fail
      refine (s_Do2 R W n (B0+1 * k) _ 5 k 0 _ w0 _ hn HS.out rfl (one_okS hn (by omega) (show (5:Int) ∈ oneKs by decide)).1 (one_okS (q:=k) hn (by omega) (show (5:Int) ∈ oneKs by decide)).2 (by omega)).mono ?_
      rintro e wq ⟨rfl,hq0⟩
      have HS:=zH hq0
      clear hq0
      go_wp2_with fail
      go_roundg (gk - 1)
      all_goals first
       |omega
       |exact ⟨k+1,_,by omega,by go_num,by omega,by have:=NX.out;rwa [show f1 n q k s=doS n s 5 k 0 by unfold f1;(try rw [EX.out]);(try rw [EZ.out]);(try rw [hx]);(try rw [hz]);rfl] at this,HS.out.mono (by omega)⟩
   ·obtain rfl:n=k:=by omega
    obtain rfl:gk=0:=by omega
    obtain rfl:s=S1:=hfin
    go_wp2_with fail
    go_meet
    exact HS.out
 case rest =>
  have HS:=zH hcut
  clear hcut
  obtain ⟨wn,rfl⟩:∃ wn,wn=wc:=⟨_,rfl⟩
  go_upto_block 2 with fail
  go_cut [7] from 47 to 65 (fun i wx=>i=.int .i64 (F:Nat)/\SI R W 159 n (B0+1 * n) S1 w0 wx)
  case first =>
   go_wp2_with fail
   go_loopg [7] (n+1 - q) (fun m i wr=>∃ (k:Nat),k+m=n+1/\i=.int .i64 k/\q<=k/\k<=n - 1/\fndX S1.1 q k (n - 1 - k)=F/\SI R W 159 n (B0+1 * n) S1 w0 wr)
   case atStart=>exact ⟨q,by omega,rfl,by omega,by omega,HF.out,HS.out⟩
   case round =>
    clear HS HF
    obtain ⟨k,hk,rfl,hqk,hkn,hfin,hS⟩:=hrel
    have HS:=zH hS
    clear hS
    by_cases hlt:k < n - 1
    ·have HFK:=zH (fndX_step (by omega) hfin)
     clear hfin
     have hltI:(k:Int) < (n:Int) - 1:=by omega
     have hltd:decide ((k:Int) < (n:Int) - 1)=true:=by simpa using hltI
     obtain ⟨a,ha,hoa,A0,c0,A1,c1,hW⟩:=HS.out.row (i:=q) (by omega)
     have HW:=zH hW
     have HA:=zH ha
     have hx16:=(okQ16 hn.2 hoa).1
     have hz16:=(okQ16 hn.2 hoa).2.1
     obtain ⟨b,off,rfl⟩:=hW.rd.first (by omega)
     obtain ⟨hbl,y0,y1,y2,y3⟩:=hW.rd.cellsAt (pgs_drop ha)
     simp only [pg] at y0 y1 y2 y3
     obtain ⟨t0,t1,t2,_⟩:=hW.1.three
     have HB:=HA
     have hi1:(q:Int) < ((2 * n:Nat):Int):=by omega
     clear hW ha
     have EX:=zH (xB_at (k:=k) HA.out)
     cases hx:bitB a.x k
     ·skip
      have HK:=zH (show fndX S1.1 q (k+1) (n - 1 - (k+1))=F by have:=HFK.out;rwa [EX.out,hx,if_neg (by decide)] at this)
      go_wp2_with fail
      refine (s_28X n k a _ hx16 (by omega)).mono ?_
      rintro e wq ⟨rfl,bq⟩
      have HS:=zH (HS.out.below bq)
      clear bq
      go_wp2_with fail
      go_roundg (gk - 1)
      all_goals first
       |omega
       |exact ⟨k+1,by omega,by go_num,by omega,by omega,HK.out,HS.out⟩
     ·skip
      have HK:=zH (show k=F by have:=HFK.out;rwa [EX.out,hx,if_pos rfl] at this)
      go_wp2_with fail
      refine (s_28X n k a _ hx16 (by omega)).mono ?_
      rintro e wq ⟨rfl,bq⟩
      have HS:=zH (HS.out.below bq)
      clear bq
      go_wp2_with fail
      go_meet
      exact ⟨by rw [HK.out],HS.out⟩
    ·have HK:=zH (show k=F by rw [show n - 1 - k=0 by omega] at hfin;exact hfin)
     clear hfin
     have hltI:¬ ((k:Int) < (n:Int) - 1):=by omega
     have hltd:decide ((k:Int) < (n:Int) - 1)=false:=by simpa using hltI
     go_wp2_with fail
     go_meet
     exact ⟨by rw [HK.out],HS.out⟩
  case rest =>
   obtain ⟨rfl,hS⟩:=hcut
   have HS:=zH hS
   clear hS
   obtain ⟨wn,rfl⟩:∃ wn,wn=wc:=⟨_,rfl⟩
   go_upto_if 68 with fail
   go_cut [69] from 68 to 73 (fun i wx=>SI R W 159 n (B0+1 * n+1) S2 w0 wx)
   case first =>
    by_cases hF:F=q
    ·subst hF
     have HE:=zH (show S1=S2 by have:=HE2.out;rwa [if_pos rfl] at this)
     go_wp2_with fail
     go_meet
     exact HE.out ▸ HS.out.mono (by omega)
    ·have HE:=zH (show doS n S1 11 q F=S2 by have:=HE2.out;rwa [if_neg hF] at this)
     have hFI:¬ ((F:Int)=(q:Int)):=by omega
     have hFd:((F:Int) != (q:Int))=true:=by simpa using hFI
     go_wp2_with fail
     refine (s_Do2 R W n (B0+1 * n) _ 11 q F _ w0 _ hn HS.out rfl (two_okS hn (show q < n by omega) (show F < n by omega) (by omega)).2 (by decide) (by omega)).mono ?_
     rintro e wq ⟨rfl,hq0⟩
     have HS:=zH hq0
     clear hq0
     go_wp2_with fail
     go_meet
     exact HE.out ▸ HS.out
   case rest =>
    have HS:=zH hcut
    clear hcut
    obtain ⟨wn,rfl⟩:∃ wn,wn=wc:=⟨_,rfl⟩
    go_upto_block 4 with fail
    go_wp2_with fail
    go_loopg [7] (n - (q+1)) (fun m i wr=>∃ (k:Nat) (s:SSt),k+m=n/\i=.int .i64 k/\q+1<=k/\loopK (f2 n q) k m s=S3/\SI R W 159 n (B0+1 * n+1+1 * k) s w0 wr)
    case atStart=>exact ⟨q+1,_,by omega,by go_num,by omega,HS3.out,HS.out.mono (by omega)⟩
    case round =>
     clear HS HS3
     obtain ⟨k,s,hk,rfl,hqk,hfin,hS⟩:=hrel
     have HS:=zH hS
     clear hS
     by_cases hlt:k < n
     ·have NX:=zH (loopK_next hlt hk hfin)
      clear hfin
      obtain ⟨a,ha,hoa,A0,c0,A1,c1,hW⟩:=HS.out.row (i:=q) (by omega)
      have HW:=zH hW
      have HA:=zH ha
      have hx16:=(okQ16 hn.2 hoa).1
      have hz16:=(okQ16 hn.2 hoa).2.1
      obtain ⟨b,off,rfl⟩:=hW.rd.first (by omega)
      obtain ⟨hbl,y0,y1,y2,y3⟩:=hW.rd.cellsAt (pgs_drop ha)
      simp only [pg] at y0 y1 y2 y3
      obtain ⟨t0,t1,t2,_⟩:=hW.1.three
      have HB:=HA
      have hi1:(q:Int) < ((2 * n:Nat):Int):=by omega
      clear hW ha
      have EX:=zH (xB_at (k:=k) HB.out)
      have EZ:=zH (zB_at (k:=k) HB.out)
      cases hx:bitB a.x k
      ·skip
       go_wp2_with fail
       refine (s_28X n k a _ hx16 (by omega)).mono ?_
       rintro e wq ⟨rfl,bq⟩
       have HS:=zH (HS.out.below bq)
       clear bq
       go_wp2_with fail
       go_roundg (gk - 1)
       all_goals first
        |omega
        |exact ⟨k+1,_,by omega,by go_num,by omega,by have:=NX.out;rwa [show f2 n q k s=s by unfold f2;(try rw [EX.out]);(try rw [EZ.out]);(try rw [hx]);(try rw [hz]);rfl] at this,HS.out.mono (by omega)⟩
      ·skip
       go_wp2_with fail
       refine (s_28X n k a _ hx16 (by omega)).mono ?_
       rintro e wq ⟨rfl,bq⟩
       have HS:=zH (HS.out.below bq)
       clear bq
       go_wp2_with fail
       refine (s_cx q k _).mono ?_
       rintro e wq ⟨rfl,bq⟩
       have HS:=zH (HS.out.below bq)
       clear bq
       go_wp2_with fail
       refine (s_Do2 R W n (B0+1 * n+1+1 * k) _ 9 q k _ w0 _ hn HS.out rfl (two_okS hn (show q < n by omega) (show k < n by omega) (by omega)).1 (by decide) (by omega)).mono ?_
       rintro e wq ⟨rfl,hq0⟩
       have HS:=zH hq0
       clear hq0
       go_wp2_with fail
       go_roundg (gk - 1)
       all_goals first
        |omega
        |exact ⟨k+1,_,by omega,by go_num,by omega,by have:=NX.out;rwa [show f2 n q k s=doS n s 9 q k by unfold f2;(try rw [EX.out]);(try rw [EZ.out]);(try rw [hx]);(try rw [hz]);rfl] at this,HS.out.mono (by omega)⟩
     ·obtain rfl:n=k:=by omega
      obtain rfl:gk=0:=by omega
      obtain rfl:s=S3:=hfin
      go_wp2_with fail
      (first | go_ret | go_end0)
      exact ⟨rfl,by rw [HE3.out];exact HS.out.mono (by omega)⟩
set_option maxRecDepth 100000 in
theorem s_Second (R W n B0 q:Nat) (S3:SSt) (w0 w:World) (hn:1<=n/\n<=4) (hq:q < n) (h:SI R W 159 n B0 S3 w0 w) (hB:B0<=500) :
  Calls Tryz.prog 153 #[.pointer (some ⟨W,0,none⟩),.int .i64 (q:Nat)] w fun e w'=>e=.returned (.tuple #[])/\SI R W 159 n (B0+17) (secondQ n q S3) w0 w':=by
 obtain ⟨S4,eS4⟩:∃ S,loopK (f3 n q) (q+1) (n - (q+1)) S3=S:=⟨_,rfl⟩
 obtain ⟨S5,eS5⟩:∃ S,loopK (f4 n q) (q+1) (n - (q+1)) S4=S:=⟨_,rfl⟩
 obtain ⟨S6,eS6⟩:∃ S,hH n q S5=S:=⟨_,rfl⟩
 obtain ⟨S7,eS7⟩:∃ S,pZ n q S6=S:=⟨_,rfl⟩
 obtain ⟨S8,eS8⟩:∃ S,pX n q S7=S:=⟨_,rfl⟩
 have HE8:=zH (show secondQ n q S3=S8 by rw [<- eS8,<- eS7,<- eS6,<- eS5,<- eS4];rfl)
 have HS4:=zH eS4
 clear eS4
 have HS5:=zH eS5
 clear eS5
 have HS6:=zH eS6
 clear eS6
 have HS7:=zH eS7
 clear eS7
 have HS8:=zH eS8
 clear eS8
 have n1:(1:Int)<=(n:Int):=by omega
 have n4:(n:Int)<=4:=by omega
 have q0:(0:Int)<=(q:Int):=by omega
 have qn:(q:Int) < (n:Int):=by omega
 have HS:=zH h
 clear h
 obtain ⟨A0,c0,A1,c1,hW⟩:=HS.out.2.2.1
 obtain ⟨t0,t1,t2,_⟩:=hW.1.three
 clear hW
 go_enter Tryz.func153,Tryz.ntmps153
 go_upto_block 0 with fail
 go_cut [5] from 15 to 52 (fun i wx=>SI R W 159 n (B0+2 * n) S4 w0 wx)
 case first =>
  go_wp2_with fail
  go_loopg [5] (n - (q+1)) (fun m i wr=>∃ (k:Nat) (s:SSt),k+m=n/\i=.int .i64 k/\q+1<=k/\loopK (f3 n q) k m s=S4/\SI R W 159 n (B0+2 * k) s w0 wr)
  case atStart=>exact ⟨q+1,_,by omega,by go_num,by omega,HS4.out,HS.out.mono (by omega)⟩
  case round =>
   clear HS HS4
   obtain ⟨k,s,hk,rfl,hqk,hfin,hS⟩:=hrel
   have HS:=zH hS
   clear hS
   by_cases hlt:k < n
   ·have NX:=zH (loopK_next hlt hk hfin)
    clear hfin
    obtain ⟨a,ha,hoa,A0,c0,A1,c1,hW⟩:=HS.out.row (i:=n+q) (by omega)
    have HW:=zH hW
    have HA:=zH ha
    have hx16:=(okQ16 hn.2 hoa).1
    have hz16:=(okQ16 hn.2 hoa).2.1
    obtain ⟨b,off,rfl⟩:=hW.rd.first (by omega)
    obtain ⟨hbl,y0,y1,y2,y3⟩:=hW.rd.cellsAt (pgs_drop ha)
    simp only [pg] at y0 y1 y2 y3
    obtain ⟨t0,t1,t2,_⟩:=hW.1.three
    have HB:=zH (row_comm HA.out)
    have hi1:(n:Int)+(q:Int) < ((2 * n:Nat):Int):=by omega
    have hi2:(q:Int)+(n:Int) < ((2 * n:Nat):Int):=by omega
    clear hW ha
    have EX:=zH (xB_at (k:=k) HB.out)
    have EZ:=zH (zB_at (k:=k) HB.out)
    cases hx:bitB a.x k
    ·skip
     cases hz:bitB a.z k
     ·skip
      go_wp2_with fail
      have HP:=zH (Bx.new wr 151 #[.int .i64 (n:Nat),.int .i64 (a.x:Nat),.int .i64 (a.z:Nat),.int .i64 (a.p:Nat)])
      have HS:=zH (HS.out.alloc (.cells #[.int .i64 (n:Nat),.int .i64 (a.x:Nat),.int .i64 (a.z:Nat),.int .i64 (a.p:Nat)] 151))
      clear y0 y1 y2 y3 t0 t1 t2 hbl
      refine (s_28X n k a _ hx16 (by omega)).mono ?_
      rintro e wq ⟨rfl,bq⟩
      have HP:=zH (HP.out.below bq)
      obtain ⟨p0,p1,p2,p3,_⟩:=HP.out.four
      have HS:=zH (HS.out.below bq)
      clear bq
      go_wp2_with fail
      refine (s_28X n k a _ hx16 (by omega)).mono ?_
      rintro e wq ⟨rfl,bq⟩
      have HP:=zH (HP.out.below bq)
      obtain ⟨p0,p1,p2,p3,_⟩:=HP.out.four
      have HS:=zH (HS.out.below bq)
      clear bq
      go_wp2_with fail
      go_roundg (gk - 1)
      all_goals first
       |omega
       |exact ⟨k+1,_,by omega,by go_num,by omega,by have:=NX.out;rwa [show f3 n q k s=s by unfold f3;(try rw [EX.out]);(try rw [EZ.out]);(try rw [hx]);(try rw [hz]);rfl] at this,HS.out.mono (by omega)⟩
     ·skip
      go_wp2_with fail
      have HP:=zH (Bx.new wr 151 #[.int .i64 (n:Nat),.int .i64 (a.x:Nat),.int .i64 (a.z:Nat),.int .i64 (a.p:Nat)])
      have HS:=zH (HS.out.alloc (.cells #[.int .i64 (n:Nat),.int .i64 (a.x:Nat),.int .i64 (a.z:Nat),.int .i64 (a.p:Nat)] 151))
      clear y0 y1 y2 y3 t0 t1 t2 hbl
      refine (s_28X n k a _ hx16 (by omega)).mono ?_
      rintro e wq ⟨rfl,bq⟩
      have HP:=zH (HP.out.below bq)
      obtain ⟨p0,p1,p2,p3,_⟩:=HP.out.four
      have HS:=zH (HS.out.below bq)
      clear bq
      go_wp2_with fail
      refine (s_28X n k a _ hx16 (by omega)).mono ?_
      rintro e wq ⟨rfl,bq⟩
      have HP:=zH (HP.out.below bq)
      obtain ⟨p0,p1,p2,p3,_⟩:=HP.out.four
      have HS:=zH (HS.out.below bq)
      clear bq
      go_wp2_with fail
      go_roundg (gk - 1)
      all_goals first
       |omega
       |exact ⟨k+1,_,by omega,by go_num,by omega,by have:=NX.out;rwa [show f3 n q k s=s by unfold f3;(try rw [EX.out]);(try rw [EZ.out]);(try rw [hx]);(try rw [hz]);rfl] at this,HS.out.mono (by omega)⟩
    ·skip
     cases hz:bitB a.z k
     ·skip
      go_wp2_with fail
      have HP:=zH (Bx.new wr 151 #[.int .i64 (n:Nat),.int .i64 (a.x:Nat),.int .i64 (a.z:Nat),.int .i64 (a.p:Nat)])
      have HS:=zH (HS.out.alloc (.cells #[.int .i64 (n:Nat),.int .i64 (a.x:Nat),.int .i64 (a.z:Nat),.int .i64 (a.p:Nat)] 151))
      clear y0 y1 y2 y3 t0 t1 t2 hbl
      refine (s_28X n k a _ hx16 (by omega)).mono ?_
      rintro e wq ⟨rfl,bq⟩
      have HP:=zH (HP.out.below bq)
      obtain ⟨p0,p1,p2,p3,_⟩:=HP.out.four
      have HS:=zH (HS.out.below bq)
      clear bq
      go_wp2_with fail
      refine (s_28Z n k a _ hz16 (by omega)).mono ?_
      rintro e wq ⟨rfl,bq⟩
      have HP:=zH (HP.out.below bq)
      obtain ⟨p0,p1,p2,p3,_⟩:=HP.out.four
      have HS:=zH (HS.out.below bq)
      clear bq
      go_wp2_with fail
      refine (s_28X n k a _ hx16 (by omega)).mono ?_
      rintro e wq ⟨rfl,bq⟩
      have HP:=zH (HP.out.below bq)
      obtain ⟨p0,p1,p2,p3,_⟩:=HP.out.four
      have HS:=zH (HS.out.below bq)
      clear bq
      go_wp2_with fail
      refine (s_one 4 k _).mono ?_
      rintro e wq ⟨rfl,bq⟩
      have HS:=zH (HS.out.below bq)
      clear bq
      go_wp2_with fail
      refine (s_Do2 R W n (B0+2 * k) _ 4 k 0 _ w0 _ hn HS.out rfl (one_okS hn (by omega) (show (4:Int) ∈ oneKs by decide)).1 (one_okS (q:=k) hn (by omega) (show (4:Int) ∈ oneKs by decide)).2 (by omega)).mono ?_
      rintro e wq ⟨rfl,hq0⟩
      have HS:=zH hq0
      clear hq0
      go_wp2_with fail
      go_roundg (gk - 1)
      all_goals first
       |omega
       |exact ⟨k+1,_,by omega,by go_num,by omega,by have:=NX.out;rwa [show f3 n q k s=doS n s 4 k 0 by unfold f3;(try rw [EX.out]);(try rw [EZ.out]);(try rw [hx]);(try rw [hz]);rfl] at this,HS.out.mono (by omega)⟩
     ·skip
      go_wp2_with fail
      have HP:=zH (Bx.new wr 151 #[.int .i64 (n:Nat),.int .i64 (a.x:Nat),.int .i64 (a.z:Nat),.int .i64 (a.p:Nat)])
      have HS:=zH (HS.out.alloc (.cells #[.int .i64 (n:Nat),.int .i64 (a.x:Nat),.int .i64 (a.z:Nat),.int .i64 (a.p:Nat)] 151))
      clear y0 y1 y2 y3 t0 t1 t2 hbl
      refine (s_28X n k a _ hx16 (by omega)).mono ?_
      rintro e wq ⟨rfl,bq⟩
      have HP:=zH (HP.out.below bq)
      obtain ⟨p0,p1,p2,p3,_⟩:=HP.out.four
      have HS:=zH (HS.out.below bq)
      clear bq
      go_wp2_with fail
      refine (s_28Z n k a _ hz16 (by omega)).mono ?_
      rintro e wq ⟨rfl,bq⟩
      have HP:=zH (HP.out.below bq)
      obtain ⟨p0,p1,p2,p3,_⟩:=HP.out.four
      have HS:=zH (HS.out.below bq)
      clear bq
      go_wp2_with fail
      refine (s_one 5 k _).mono ?_
      rintro e wq ⟨rfl,bq⟩
      have HS:=zH (HS.out.below bq)
      clear bq
      go_wp2_with fail
      refine (s_Do2 R W n (B0+2 * k) _ 5 k 0 _ w0 _ hn HS.out rfl (one_okS hn (by omega) (show (5:Int) ∈ oneKs by decide)).1 (one_okS (q:=k) hn (by omega) (show (5:Int) ∈ oneKs by decide)).2 (by omega)).mono ?_
      rintro e wq ⟨rfl,hq0⟩
      have HS:=zH hq0
      clear hq0
      go_wp2_with fail
      refine (s_one 4 k _).mono ?_
      rintro e wq ⟨rfl,bq⟩
      have HS:=zH (HS.out.below bq)
      clear bq
      go_wp2_with fail
      refine (s_Do2 R W n (B0+2 * k+1) _ 4 k 0 _ w0 _ hn HS.out rfl (one_okS hn (by omega) (show (4:Int) ∈ oneKs by decide)).1 (one_okS (q:=k) hn (by omega) (show (4:Int) ∈ oneKs by decide)).2 (by omega)).mono ?_
      rintro e wq ⟨rfl,hq0⟩
      have HS:=zH hq0
      clear hq0
      go_wp2_with fail
      go_roundg (gk - 1)
      all_goals first
       |omega
       |exact ⟨k+1,_,by omega,by go_num,by omega,by have:=NX.out;rwa [show f3 n q k s=doS n (doS n s 5 k 0) 4 k 0 by unfold f3;(try rw [EX.out]);(try rw [EZ.out]);(try rw [hx]);(try rw [hz]);rfl] at this,HS.out.mono (by omega)⟩
   ·obtain rfl:n=k:=by omega
    obtain rfl:gk=0:=by omega
    obtain rfl:s=S4:=hfin
    go_wp2_with fail
    go_meet
    exact HS.out
 case rest =>
  have HS:=zH hcut
  clear hcut
  obtain ⟨wn,rfl⟩:∃ wn,wn=wc:=⟨_,rfl⟩
  go_upto_block 2 with fail
  go_cut [7] from 55 to 76 (fun i wx=>SI R W 159 n (B0+2 * n+1 * n) S5 w0 wx)
  case first =>
   go_wp2_with fail
   go_loopg [7] (n - (q+1)) (fun m i wr=>∃ (k:Nat) (s:SSt),k+m=n/\i=.int .i64 k/\q+1<=k/\loopK (f4 n q) k m s=S5/\SI R W 159 n (B0+2 * n+1 * k) s w0 wr)
   case atStart=>exact ⟨q+1,_,by omega,by go_num,by omega,HS5.out,HS.out.mono (by omega)⟩
   case round =>
    clear HS HS5
    obtain ⟨k,s,hk,rfl,hqk,hfin,hS⟩:=hrel
    have HS:=zH hS
    clear hS
    by_cases hlt:k < n
    ·have NX:=zH (loopK_next hlt hk hfin)
     clear hfin
     obtain ⟨a,ha,hoa,A0,c0,A1,c1,hW⟩:=HS.out.row (i:=n+q) (by omega)
     have HW:=zH hW
     have HA:=zH ha
     have hx16:=(okQ16 hn.2 hoa).1
     have hz16:=(okQ16 hn.2 hoa).2.1
     obtain ⟨b,off,rfl⟩:=hW.rd.first (by omega)
     obtain ⟨hbl,y0,y1,y2,y3⟩:=hW.rd.cellsAt (pgs_drop ha)
     simp only [pg] at y0 y1 y2 y3
     obtain ⟨t0,t1,t2,_⟩:=hW.1.three
     have HB:=zH (row_comm HA.out)
     have hi1:(n:Int)+(q:Int) < ((2 * n:Nat):Int):=by omega
     have hi2:(q:Int)+(n:Int) < ((2 * n:Nat):Int):=by omega
     clear hW ha
     have EX:=zH (xB_at (k:=k) HB.out)
     have EZ:=zH (zB_at (k:=k) HB.out)
     cases hz:bitB a.z k
     ·skip
      go_wp2_with fail
      refine (s_28Z n k a _ hz16 (by omega)).mono ?_
      rintro e wq ⟨rfl,bq⟩
      have HS:=zH (HS.out.below bq)
      clear bq
      go_wp2_with fail
      go_roundg (gk - 1)
      all_goals first
       |omega
       |exact ⟨k+1,_,by omega,by go_num,by omega,by have:=NX.out;rwa [show f4 n q k s=s by unfold f4;(try rw [EX.out]);(try rw [EZ.out]);(try rw [hx]);(try rw [hz]);rfl] at this,HS.out.mono (by omega)⟩
     ·skip
      go_wp2_with fail
      refine (s_28Z n k a _ hz16 (by omega)).mono ?_
      rintro e wq ⟨rfl,bq⟩
      have HS:=zH (HS.out.below bq)
      clear bq
      go_wp2_with fail
      refine (s_cx k q _).mono ?_
      rintro e wq ⟨rfl,bq⟩
      have HS:=zH (HS.out.below bq)
      clear bq
      go_wp2_with fail
      refine (s_Do2 R W n (B0+2 * n+1 * k) _ 9 k q _ w0 _ hn HS.out rfl (two_okS hn (show k < n by omega) (show q < n by omega) (by omega)).1 (by decide) (by omega)).mono ?_
      rintro e wq ⟨rfl,hq0⟩
      have HS:=zH hq0
      clear hq0
      go_wp2_with fail
      go_roundg (gk - 1)
      all_goals first
       |omega
       |exact ⟨k+1,_,by omega,by go_num,by omega,by have:=NX.out;rwa [show f4 n q k s=doS n s 9 k q by unfold f4;(try rw [EX.out]);(try rw [EZ.out]);(try rw [hx]);(try rw [hz]);rfl] at this,HS.out.mono (by omega)⟩
    ·obtain rfl:n=k:=by omega
     obtain rfl:gk=0:=by omega
     obtain rfl:s=S5:=hfin
     go_wp2_with fail
     go_meet
     exact HS.out
  case rest =>
   have HS:=zH hcut
   clear hcut
   obtain ⟨wn,rfl⟩:∃ wn,wn=wc:=⟨_,rfl⟩
   obtain ⟨a,ha,hoa,A0,c0,A1,c1,hW⟩:=HS.out.row (i:=n+q) (by omega)
   have HW:=zH hW
   have HA:=zH ha
   have hx16:=(okQ16 hn.2 hoa).1
   have hz16:=(okQ16 hn.2 hoa).2.1
   obtain ⟨b,off,rfl⟩:=hW.rd.first (by omega)
   obtain ⟨hbl,y0,y1,y2,y3⟩:=hW.rd.cellsAt (pgs_drop ha)
   simp only [pg] at y0 y1 y2 y3
   obtain ⟨t0,t1,t2,_⟩:=hW.1.three
   have HB:=zH (row_comm HA.out)
   have hi1:(n:Int)+(q:Int) < ((2 * n:Nat):Int):=by omega
   have hi2:(q:Int)+(n:Int) < ((2 * n:Nat):Int):=by omega
   clear hW ha
   have EX:=zH (xB_at (k:=q) HB.out)
   go_wp2_with fail
   refine (s_28X n q a _ hx16 (by omega)).mono ?_
   rintro e wq ⟨rfl,bq⟩
   have HS:=zH (HS.out.below bq)
   clear bq
   go_upto_if 88 with fail
   go_cut [89] from 88 to 100 (fun i wx=>SI R W 159 n (B0+2 * n+1 * n+3) S6 w0 wx)
   case first =>
    cases hx:bitB a.x q
    ·skip
     have HE:=zH (show S5=S6 by have:=HS6.out;unfold hH at this;rwa [EX.out,if_neg (by first | (rw [hx];decide) | assumption)] at this)
     go_wp2_with fail
     go_meet
     exact HE.out ▸ HS.out.mono (by omega)
    ·skip
     have HE:=zH (show doS n (doS n (doS n S5 4 q 0) 5 q 0) 4 q 0=S6 by have:=HS6.out;unfold hH at this;rwa [EX.out,if_pos (by first | exact hx | decide | assumption)] at this)
     go_wp2_with fail
     refine (s_one 4 q _).mono ?_
     rintro e wq ⟨rfl,bq⟩
     have HS:=zH (HS.out.below bq)
     clear bq
     go_wp2_with fail
     refine (s_Do2 R W n (B0+2 * n+1 * n) _ 4 q 0 _ w0 _ hn HS.out rfl (one_okS hn (by omega) (show (4:Int) ∈ oneKs by decide)).1 (one_okS (q:=q) hn (by omega) (show (4:Int) ∈ oneKs by decide)).2 (by omega)).mono ?_
     rintro e wq ⟨rfl,hq0⟩
     have HS:=zH hq0
     clear hq0
     go_wp2_with fail
     refine (s_one 5 q _).mono ?_
     rintro e wq ⟨rfl,bq⟩
     have HS:=zH (HS.out.below bq)
     clear bq
     go_wp2_with fail
     refine (s_Do2 R W n (B0+2 * n+1 * n+1) _ 5 q 0 _ w0 _ hn HS.out rfl (one_okS hn (by omega) (show (5:Int) ∈ oneKs by decide)).1 (one_okS (q:=q) hn (by omega) (show (5:Int) ∈ oneKs by decide)).2 (by omega)).mono ?_
     rintro e wq ⟨rfl,hq0⟩
     have HS:=zH hq0
     clear hq0
     go_wp2_with fail
     refine (s_one 4 q _).mono ?_
     rintro e wq ⟨rfl,bq⟩
     have HS:=zH (HS.out.below bq)
     clear bq
     go_wp2_with fail
     refine (s_Do2 R W n (B0+2 * n+1 * n+1+1) _ 4 q 0 _ w0 _ hn HS.out rfl (one_okS hn (by omega) (show (4:Int) ∈ oneKs by decide)).1 (one_okS (q:=q) hn (by omega) (show (4:Int) ∈ oneKs by decide)).2 (by omega)).mono ?_
     rintro e wq ⟨rfl,hq0⟩
     have HS:=zH hq0
     clear hq0
     go_wp2_with fail
     go_meet
     exact HE.out ▸ HS.out.mono (by omega)
   case rest =>
    have HS:=zH hcut
    clear hcut
    obtain ⟨wn,rfl⟩:∃ wn,wn=wc:=⟨_,rfl⟩
    clear HW HA HB EX hx16 hz16 hoa
    try clear hi1 hi2
    try clear hi1
    obtain ⟨a,ha,hoa,A0,c0,A1,c1,hW⟩:=HS.out.row (i:=q) (by omega)
    have HW:=zH hW
    have HA:=zH ha
    have hx16:=(okQ16 hn.2 hoa).1
    have hz16:=(okQ16 hn.2 hoa).2.1
    obtain ⟨b,off,rfl⟩:=hW.rd.first (by omega)
    obtain ⟨hbl,y0,y1,y2,y3⟩:=hW.rd.cellsAt (pgs_drop ha)
    simp only [pg] at y0 y1 y2 y3
    obtain ⟨t0,t1,t2,_⟩:=hW.1.three
    have HB:=HA
    have hi1:(q:Int) < ((2 * n:Nat):Int):=by omega
    clear hW ha
    have EX:=zH (rowP_at HB.out)
    go_upto_if 110 with fail
    go_cut [111] from 109 to 114 (fun i wx=>SI R W 159 n (B0+2 * n+1 * n+3+1) S7 w0 wx)
    case first =>
     by_cases hx:a.p=2
     ·have hpb:(((a.p:Nat):Int) == 2)=true:=by simp;omega
      have HE:=zH (show doS n S6 3 q 0=S7 by have:=HS7.out;unfold pZ at this;rwa [EX.out,if_pos (by first | exact hx | decide | assumption)] at this)
      go_wp2_with fail
      refine (s_one 3 q _).mono ?_
      rintro e wq ⟨rfl,bq⟩
      have HS:=zH (HS.out.below bq)
      clear bq
      go_wp2_with fail
      refine (s_Do2 R W n (B0+2 * n+1 * n+3) _ 3 q 0 _ w0 _ hn HS.out rfl (one_okS hn (by omega) (show (3:Int) ∈ oneKs by decide)).1 (one_okS (q:=q) hn (by omega) (show (3:Int) ∈ oneKs by decide)).2 (by omega)).mono ?_
      rintro e wq ⟨rfl,hq0⟩
      have HS:=zH hq0
      clear hq0
      go_wp2_with fail
      go_meet
      exact HE.out ▸ HS.out.mono (by omega)
     ·have hpb:(((a.p:Nat):Int) == 2)=false:=by simp;omega
      have HE:=zH (show S6=S7 by have:=HS7.out;unfold pZ at this;rwa [EX.out,if_neg (by first | (rw [hx];decide) | assumption)] at this)
      go_wp2_with fail
      go_meet
      exact HE.out ▸ HS.out.mono (by omega)
    case rest =>
     have HS:=zH hcut
     clear hcut
     obtain ⟨wn,rfl⟩:∃ wn,wn=wc:=⟨_,rfl⟩
     clear HW HA HB EX hx16 hz16 hoa
     try clear hi1 hi2
     try clear hi1
     obtain ⟨a,ha,hoa,A0,c0,A1,c1,hW⟩:=HS.out.row (i:=n+q) (by omega)
     have HW:=zH hW
     have HA:=zH ha
     have hx16:=(okQ16 hn.2 hoa).1
     have hz16:=(okQ16 hn.2 hoa).2.1
     obtain ⟨b,off,rfl⟩:=hW.rd.first (by omega)
     obtain ⟨hbl,y0,y1,y2,y3⟩:=hW.rd.cellsAt (pgs_drop ha)
     simp only [pg] at y0 y1 y2 y3
     obtain ⟨t0,t1,t2,_⟩:=hW.1.three
     have HB:=zH (row_comm HA.out)
     have hi1:(n:Int)+(q:Int) < ((2 * n:Nat):Int):=by omega
     have hi2:(q:Int)+(n:Int) < ((2 * n:Nat):Int):=by omega
     clear hW ha
     have EX:=zH (rowP_at HB.out)
     by_cases hx:a.p=2
     ·have hpb:(((a.p:Nat):Int) == 2)=true:=by simp;omega
      have HE:=zH (show doS n S7 1 q 0=S8 by have:=HS8.out;unfold pX at this;rwa [EX.out,if_pos hx] at this)
      go_wp2_with fail
      refine (s_one 1 q _).mono ?_
      rintro e wq ⟨rfl,bq⟩
      have HS:=zH (HS.out.below bq)
      clear bq
      go_wp2_with fail
      refine (s_Do2 R W n (B0+2 * n+1 * n+3+1) _ 1 q 0 _ w0 _ hn HS.out rfl (one_okS hn (by omega) (show (1:Int) ∈ oneKs by decide)).1 (one_okS (q:=q) hn (by omega) (show (1:Int) ∈ oneKs by decide)).2 (by omega)).mono ?_
      rintro e wq ⟨rfl,hq0⟩
      have HS:=zH hq0
      clear hq0
      go_wp2_with fail
      (first | go_ret | go_end0)
      exact ⟨rfl,by rw [HE8.out,<- HE.out];exact HS.out.mono (by omega)⟩
     ·have hpb:(((a.p:Nat):Int) == 2)=false:=by simp;omega
      have HE:=zH (show S7=S8 by have:=HS8.out;unfold pX at this;rwa [EX.out,if_neg hx] at this)
      go_wp2_with fail
      (first | go_ret | go_end0)
      exact ⟨rfl,by rw [HE8.out,<- HE.out];exact HS.out.mono (by omega)⟩
end Go.Proofs.YtmenmibfkojnoaaGreat
