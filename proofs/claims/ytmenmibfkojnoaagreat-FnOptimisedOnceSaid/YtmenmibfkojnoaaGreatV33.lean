/- Contract of qubit (impl). Contracts of l26Copy (spec) and ReduceTableau (spec and impl), for valid tableaus. Contracts of ReduceTableau (impl) and SynthesizeTableau (spec and impl), for valid tableaus; what they say of the zero tableau. Contracts of ResynthesizeClifford (spec and impl), for lists of Clifford gates. -/
import Derived.Test.YtmenmibfkojnoaaGreatV27
import Derived.Test.YtmenmibfkojnoaaGreatV28
import Derived.Test.YtmenmibfkojnoaaGreatV32
import Derived.Test.YtmenmibfkojnoaaGreatV31
import Derived.Test.YtmenmibfkojnoaaGreatV18
import Derived.Test.YtmenmibfkojnoaaGreatV16
import Derived.Deep.CutBlock
set_option maxHeartbeats 16000000
namespace Go.Proofs.YtmenmibfkojnoaaGreat
open Go.RowKit
set_option linter.unusedVariables false
set_option maxRecDepth 100000 in
theorem i_qubit (R W n B0 q:Nat) (S0:SSt) (w0 w:World) (hn:1<=n/\n<=4) (hq:q < n) (h:SI R W 163 n B0 S0 w0 w) (hB:B0<=500) :
  Calls Tryz.prog 157 #[.pointer (some ⟨W,0,none⟩),.int .i64 (q:Nat)] w fun e w'=>e=.returned (.tuple #[])/\SI R W 163 n (B0+26) (secondQ n q (firstQ n q S0)) w0 w':=by
 obtain ⟨S1,eS1⟩:∃ S,loopK (f1 n q) q (n - q) S0=S:=⟨_,rfl⟩
 obtain ⟨F,eF⟩:∃ F,fndX S1.1 q q (n - 1 - q)=F:=⟨_,rfl⟩
 have hF1:q<=F/\F<=n - 1:=by have:=fndX_bd S1.1 q (n - 1 - q) q;omega
 obtain ⟨S2,eS2⟩:∃ S,sw1 n q S1=S:=⟨_,rfl⟩
 have HE2:=zH (show (if F=q then S1 else doS n S1 11 q F)=S2 by rw [<- eS2,<- eF];rfl)
 obtain ⟨S3,eS3⟩:∃ S,loopK (f2 n q) (q+1) (n - (q+1)) S2=S:=⟨_,rfl⟩
 have HE3:=zH (show firstQ n q S0=S3 by rw [<- eS3,<- eS2,<- eS1];rfl)
 have HF:=zH eF
 clear eF
 have HS1:=zH eS1
 clear eS1
 have HS3:=zH eS3
 clear eS3
 clear eS2
 obtain ⟨S4,eS4⟩:∃ S,loopK (f3 n q) (q+1) (n - (q+1)) S3=S:=⟨_,rfl⟩
 obtain ⟨S5,eS5⟩:∃ S,loopK (f4 n q) (q+1) (n - (q+1)) S4=S:=⟨_,rfl⟩
 obtain ⟨S6,eS6⟩:∃ S,hH n q S5=S:=⟨_,rfl⟩
 obtain ⟨S7,eS7⟩:∃ S,pZ n q S6=S:=⟨_,rfl⟩
 obtain ⟨S8,eS8⟩:∃ S,pX n q S7=S:=⟨_,rfl⟩
 have HE8:=zH (show secondQ n q S3=S8 by rw [<- eS8,<- eS7,<- eS6,<- eS5,<- eS4];rfl)
 have HS4:=zH eS4
 clear eS4
 have HS5:=zH eS5
 clear eS5
 have HS6:=zH eS6
 clear eS6
 have HS7:=zH eS7
 clear eS7
 have HS8:=zH eS8
 clear eS8
 have n1:(1:Int)<=(n:Int):=by omega
 have n4:(n:Int)<=4:=by omega
 have q0:(0:Int)<=(q:Int):=by omega
 have qn:(q:Int) < (n:Int):=by omega
 have HS:=zH h
 clear h
 obtain ⟨A0,c0,A1,c1,hW⟩:=HS.out.2.2.1
 obtain ⟨t0,t1,t2,_⟩:=hW.1.three
 clear hW
 go_enter Tryz.func157,Tryz.ntmps157
 go_upto_block 0 with fail
 go_cut [6] from 17 to 43 (fun i wx=>SI R W 163 n (B0+1 * n) S1 w0 wx)
 case first =>
  go_wp2_with fail
  go_loopg [6] (n - (q)) (fun m i wr=>∃ (k:Nat) (s:SSt),k+m=n/\i=.int .i64 k/\q<=k/\loopK (f1 n q) k m s=S1/\SI R W 163 n (B0+1 * k) s w0 wr)
  case atStart=>exact ⟨q,_,by omega,by go_num,by omega,HS1.out,HS.out.mono (by omega)⟩
  case round =>
   clear HS HS1
   obtain ⟨k,s,hk,rfl,hqk,hfin,hS⟩:=hrel
   have HS:=zH hS
   clear hS
   by_cases hlt:k < n
   ·have NX:=zH (loopK_next hlt hk hfin)
    clear hfin
    obtain ⟨a,ha,hoa,A0,c0,A1,c1,hW⟩:=HS.out.row (i:=q) (by omega)
    have HW:=zH hW
    have HA:=zH ha
    have hx16:=(okQ16 hn.2 hoa).1
    have hz16:=(okQ16 hn.2 hoa).2.1
    obtain ⟨b,off,rfl⟩:=hW.rd.first (by omega)
    obtain ⟨hbl,y0,y1,y2,y3⟩:=hW.rd.cellsAt (pgs_drop ha)
    simp only [pg] at y0 y1 y2 y3
    obtain ⟨t0,t1,t2,_⟩:=hW.1.three
    have HB:=HA
    have hi1:(q:Int) < ((2 * n:Nat):Int):=by omega
    clear hW ha
    have EX:=zH (xB_at (k:=k) HB.out)
    have EZ:=zH (zB_at (k:=k) HB.out)
    cases hx:bitB a.x k
    ·skip
     cases hz:bitB a.z k
     ·skip
      go_wp2_with fail
      refine (i_rX R W n (q) k c0 c1 (q:Int) _ A1 _ _ a _ HW.out HA.out (by omega) (by omega) hn.2 hx16 (by omega)).mono ?_
      rintro e wq ⟨rfl,rfl⟩
      go_wp2_with fail
      refine (i_rZ R W n (q) k c0 c1 (q:Int) _ A1 _ _ a _ HW.out HA.out (by omega) (by omega) hn.2 hz16 (by omega)).mono ?_
      rintro e wq ⟨rfl,rfl⟩
      go_wp2_with fail
      go_roundg (gk - 1)
      all_goals first
       |omega
       |exact ⟨k+1,_,by omega,by go_num,by omega,by have:=NX.out;rwa [show f1 n q k s=s by unfold f1;(try rw [EX.out]);(try rw [EZ.out]);(try rw [hx]);(try rw [hz]);rfl] at this,HS.out.mono (by omega)⟩
     ·skip
      go_wp2_with fail
      refine (i_rX R W n (q) k c0 c1 (q:Int) _ A1 _ _ a _ HW.out HA.out (by omega) (by omega) hn.2 hx16 (by omega)).mono ?_
      rintro e wq ⟨rfl,rfl⟩
      go_wp2_with fail
      refine (i_rZ R W n (q) k c0 c1 (q:Int) _ A1 _ _ a _ HW.out HA.out (by omega) (by omega) hn.2 hz16 (by omega)).mono ?_
      rintro e wq ⟨rfl,rfl⟩
      go_wp2_with fail
      refine (i_Emit R W n (B0+1 * k) _ 4 k 0 _ w0 _ hn HS.out rfl (one_okS hn (by omega) (show (4:Int) ∈ oneKs by decide)).1 (one_okS (q:=k) hn (by omega) (show (4:Int) ∈ oneKs by decide)).2 (by omega)).mono ?_
      rintro e wq ⟨rfl,hq0⟩
      have HS:=zH hq0
      clear hq0
      go_wp2_with fail
      go_roundg (gk - 1)
      all_goals first
       |omega
       |exact ⟨k+1,_,by omega,by go_num,by omega,by have:=NX.out;rwa [show f1 n q k s=doS n s 4 k 0 by unfold f1;(try rw [EX.out]);(try rw [EZ.out]);(try rw [hx]);(try rw [hz]);rfl] at this,HS.out.mono (by omega)⟩
    ·skip
     cases hz:bitB a.z k
     ·skip
      go_wp2_with fail
      refine (i_rX R W n (q) k c0 c1 (q:Int) _ A1 _ _ a _ HW.out HA.out (by omega) (by omega) hn.2 hx16 (by omega)).mono ?_
      rintro e wq ⟨rfl,rfl⟩
      go_wp2_with fail
      refine (i_rZ R W n (q) k c0 c1 (q:Int) _ A1 _ _ a _ HW.out HA.out (by omega) (by omega) hn.2 hz16 (by omega)).mono ?_
      rintro e wq ⟨rfl,rfl⟩
      go_wp2_with fail
      refine (i_rZ R W n (q) k c0 c1 (q:Int) _ A1 _ _ a _ HW.out HA.out (by omega) (by omega) hn.2 hz16 (by omega)).mono ?_
      rintro e wq ⟨rfl,rfl⟩
      go_wp2_with fail
      go_roundg (gk - 1)
      all_goals first
       |omega
       |exact ⟨k+1,_,by omega,by go_num,by omega,by have:=NX.out;rwa [show f1 n q k s=s by unfold f1;(try rw [EX.out]);(try rw [EZ.out]);(try rw [hx]);(try rw [hz]);rfl] at this,HS.out.mono (by omega)⟩
     ·skip
      go_wp2_with fail
      refine (i_rX R W n (q) k c0 c1 (q:Int) _ A1 _ _ a _ HW.out HA.out (by omega) (by omega) hn.2 hx16 (by omega)).mono ?_
      rintro e wq ⟨rfl,rfl⟩
      go_wp2_with fail
      refine (i_rZ R W n (q) k c0 c1 (q:Int) _ A1 _ _ a _ HW.out HA.out (by omega) (by omega) hn.2 hz16 (by omega)).mono ?_
      rintro e wq ⟨rfl,rfl⟩
      go_wp2_with fail
      refine (i_Emit R W n (B0+1 * k) _ 5 k 0 _ w0 _ hn HS.out rfl (one_okS hn (by omega) (show (5:Int) ∈ oneKs by decide)).1 (one_okS (q:=k) hn (by omega) (show (5:Int) ∈ oneKs by decide)).2 (by omega)).mono ?_
      rintro e wq ⟨rfl,hq0⟩
      have HS:=zH hq0
      clear hq0
      go_wp2_with fail
      go_roundg (gk - 1)
      all_goals first
       |omega
       |exact ⟨k+1,_,by omega,by go_num,by omega,by have:=NX.out;rwa [show f1 n q k s=doS n s 5 k 0 by unfold f1;(try rw [EX.out]);(try rw [EZ.out]);(try rw [hx]);(try rw [hz]);rfl] at this,HS.out.mono (by omega)⟩
   ·obtain rfl:n=k:=by omega
    obtain rfl:gk=0:=by omega
    obtain rfl:s=S1:=hfin
    go_wp2_with fail
    go_meet
    exact HS.out
 case rest =>
  have HS:=zH hcut
  clear hcut
  obtain ⟨wn,rfl⟩:∃ wn,wn=wc:=⟨_,rfl⟩
  go_upto_block 3 with fail
  go_cut [7] from 45 to 57 (fun i wx=>i=.int .i64 (F:Nat)/\SI R W 163 n (B0+1 * n) S1 w0 wx)
  case first =>
   go_wp2_with fail
   go_loopg [7] (n+1 - q) (fun m i wr=>∃ (k:Nat),k+m=n+1/\i=.int .i64 k/\q<=k/\k<=n - 1/\fndX S1.1 q k (n - 1 - k)=F/\SI R W 163 n (B0+1 * n) S1 w0 wr)
   case atStart=>exact ⟨q,by omega,rfl,by omega,by omega,HF.out,HS.out⟩
   case round =>
    clear HS HF
    obtain ⟨k,hk,rfl,hqk,hkn,hfin,hS⟩:=hrel
    have HS:=zH hS
    clear hS
    by_cases hlt:k < n - 1
    ·have HFK:=zH (fndX_step (by omega) hfin)
     clear hfin
     have hltI:(k:Int) < (n:Int) - 1:=by omega
     have hltd:decide ((k:Int) < (n:Int) - 1)=true:=by simpa using hltI
     obtain ⟨a,ha,hoa,A0,c0,A1,c1,hW⟩:=HS.out.row (i:=q) (by omega)
     have HW:=zH hW
     have HA:=zH ha
     have hx16:=(okQ16 hn.2 hoa).1
     have hz16:=(okQ16 hn.2 hoa).2.1
     obtain ⟨b,off,rfl⟩:=hW.rd.first (by omega)
     obtain ⟨hbl,y0,y1,y2,y3⟩:=hW.rd.cellsAt (pgs_drop ha)
     simp only [pg] at y0 y1 y2 y3
     obtain ⟨t0,t1,t2,_⟩:=hW.1.three
     have HB:=HA
     have hi1:(q:Int) < ((2 * n:Nat):Int):=by omega
     clear hW ha
     have EX:=zH (xB_at (k:=k) HA.out)
     cases hx:bitB a.x k
     ·skip
      have HK:=zH (show fndX S1.1 q (k+1) (n - 1 - (k+1))=F by have:=HFK.out;rwa [EX.out,hx,if_neg (by decide)] at this)
      go_wp2_with fail
      refine (i_rX R W n (q) k c0 c1 (q:Int) _ A1 _ _ a _ HW.out HA.out (by omega) (by omega) hn.2 hx16 (by omega)).mono ?_
      rintro e wq ⟨rfl,rfl⟩
      go_wp2_with fail
      go_roundg (gk - 1)
      all_goals first
       |omega
       |exact ⟨k+1,by omega,by go_num,by omega,by omega,HK.out,HS.out⟩
     ·skip
      have HK:=zH (show k=F by have:=HFK.out;rwa [EX.out,hx,if_pos rfl] at this)
      go_wp2_with fail
      refine (i_rX R W n (q) k c0 c1 (q:Int) _ A1 _ _ a _ HW.out HA.out (by omega) (by omega) hn.2 hx16 (by omega)).mono ?_
      rintro e wq ⟨rfl,rfl⟩
      go_wp2_with fail
      go_meet
      exact ⟨by rw [HK.out],HS.out⟩
    ·have HK:=zH (show k=F by rw [show n - 1 - k=0 by omega] at hfin;exact hfin)
     clear hfin
     have hltI:¬ ((k:Int) < (n:Int) - 1):=by omega
     have hltd:decide ((k:Int) < (n:Int) - 1)=false:=by simpa using hltI
     go_wp2_with fail
     go_meet
     exact ⟨by rw [HK.out],HS.out⟩
  case rest =>
   obtain ⟨rfl,hS⟩:=hcut
   have HS:=zH hS
   clear hS
   obtain ⟨wn,rfl⟩:∃ wn,wn=wc:=⟨_,rfl⟩
   go_upto_if 60 with fail
   go_cut [61] from 60 to 64 (fun i wx=>SI R W 163 n (B0+1 * n+1) S2 w0 wx)
   case first =>
    by_cases hF:F=q
    ·subst hF
     have HE:=zH (show S1=S2 by have:=HE2.out;rwa [if_pos rfl] at this)
     go_wp2_with fail
     go_meet
     exact HE.out ▸ HS.out.mono (by omega)
    ·have HE:=zH (show doS n S1 11 q F=S2 by have:=HE2.out;rwa [if_neg hF] at this)
     have hFI:¬ ((F:Int)=(q:Int)):=by omega
     have hFd:((F:Int) != (q:Int))=true:=by simpa using hFI
     go_wp2_with fail
     refine (i_Emit R W n (B0+1 * n) _ 11 q F _ w0 _ hn HS.out rfl (two_okS hn (show q < n by omega) (show F < n by omega) (by omega)).2 (by decide) (by omega)).mono ?_
     rintro e wq ⟨rfl,hq0⟩
     have HS:=zH hq0
     clear hq0
     go_wp2_with fail
     go_meet
     exact HE.out ▸ HS.out
   case rest =>
    have HS:=zH hcut
    clear hcut
    obtain ⟨wn,rfl⟩:∃ wn,wn=wc:=⟨_,rfl⟩
    go_upto_block 5 with fail
    go_cut [7] from 67 to 79 (fun i wx=>SI R W 163 n (B0+1 * n+1+1 * n) S3 w0 wx)
    case first =>
     go_wp2_with fail
     go_loopg [7] (n - (q+1)) (fun m i wr=>∃ (k:Nat) (s:SSt),k+m=n/\i=.int .i64 k/\q+1<=k/\loopK (f2 n q) k m s=S3/\SI R W 163 n (B0+1 * n+1+1 * k) s w0 wr)
     case atStart=>exact ⟨q+1,_,by omega,by go_num,by omega,HS3.out,HS.out.mono (by omega)⟩
     case round =>
      clear HS HS3
      obtain ⟨k,s,hk,rfl,hqk,hfin,hS⟩:=hrel
      have HS:=zH hS
      clear hS
      by_cases hlt:k < n
      ·have NX:=zH (loopK_next hlt hk hfin)
       clear hfin
       obtain ⟨a,ha,hoa,A0,c0,A1,c1,hW⟩:=HS.out.row (i:=q) (by omega)
       have HW:=zH hW
       have HA:=zH ha
       have hx16:=(okQ16 hn.2 hoa).1
       have hz16:=(okQ16 hn.2 hoa).2.1
       obtain ⟨b,off,rfl⟩:=hW.rd.first (by omega)
       obtain ⟨hbl,y0,y1,y2,y3⟩:=hW.rd.cellsAt (pgs_drop ha)
       simp only [pg] at y0 y1 y2 y3
       obtain ⟨t0,t1,t2,_⟩:=hW.1.three
       have HB:=HA
       have hi1:(q:Int) < ((2 * n:Nat):Int):=by omega
       clear hW ha
       have EX:=zH (xB_at (k:=k) HB.out)
       have EZ:=zH (zB_at (k:=k) HB.out)
       cases hx:bitB a.x k
       ·skip
        go_wp2_with fail
        refine (i_rX R W n (q) k c0 c1 (q:Int) _ A1 _ _ a _ HW.out HA.out (by omega) (by omega) hn.2 hx16 (by omega)).mono ?_
        rintro e wq ⟨rfl,rfl⟩
        go_wp2_with fail
        go_roundg (gk - 1)
        all_goals first
         |omega
         |exact ⟨k+1,_,by omega,by go_num,by omega,by have:=NX.out;rwa [show f2 n q k s=s by unfold f2;(try rw [EX.out]);(try rw [EZ.out]);(try rw [hx]);(try rw [hz]);rfl] at this,HS.out.mono (by omega)⟩
       ·skip
        go_wp2_with fail
        refine (i_rX R W n (q) k c0 c1 (q:Int) _ A1 _ _ a _ HW.out HA.out (by omega) (by omega) hn.2 hx16 (by omega)).mono ?_
        rintro e wq ⟨rfl,rfl⟩
        go_wp2_with fail
        refine (i_Emit R W n (B0+1 * n+1+1 * k) _ 9 q k _ w0 _ hn HS.out rfl (two_okS hn (show q < n by omega) (show k < n by omega) (by omega)).1 (by decide) (by omega)).mono ?_
        rintro e wq ⟨rfl,hq0⟩
        have HS:=zH hq0
        clear hq0
        go_wp2_with fail
        go_roundg (gk - 1)
        all_goals first
         |omega
         |exact ⟨k+1,_,by omega,by go_num,by omega,by have:=NX.out;rwa [show f2 n q k s=doS n s 9 q k by unfold f2;(try rw [EX.out]);(try rw [EZ.out]);(try rw [hx]);(try rw [hz]);rfl] at this,HS.out.mono (by omega)⟩
      ·obtain rfl:n=k:=by omega
       obtain rfl:gk=0:=by omega
       obtain rfl:s=S3:=hfin
       go_wp2_with fail
       go_meet
       exact HS.out
    case rest =>
     have HS:=zH hcut
     clear hcut
     obtain ⟨wn,rfl⟩:∃ wn,wn=wc:=⟨_,rfl⟩
     go_upto_block 7 with fail
     go_cut [7] from 82 to 111 (fun i wx=>SI R W 163 n (B0+1 * n+1+1 * n+2 * n) S4 w0 wx)
     case first =>
      go_wp2_with fail
      go_loopg [7] (n - (q+1)) (fun m i wr=>∃ (k:Nat) (s:SSt),k+m=n/\i=.int .i64 k/\q+1<=k/\loopK (f3 n q) k m s=S4/\SI R W 163 n (B0+1 * n+1+1 * n+2 * k) s w0 wr)
      case atStart=>exact ⟨q+1,_,by omega,by go_num,by omega,HS4.out,HS.out.mono (by omega)⟩
      case round =>
       clear HS HS4
       obtain ⟨k,s,hk,rfl,hqk,hfin,hS⟩:=hrel
       have HS:=zH hS
       clear hS
       by_cases hlt:k < n
       ·have NX:=zH (loopK_next hlt hk hfin)
        clear hfin
        obtain ⟨a,ha,hoa,A0,c0,A1,c1,hW⟩:=HS.out.row (i:=q+n) (by omega)
        have HW:=zH hW
        have HA:=zH ha
        have hx16:=(okQ16 hn.2 hoa).1
        have hz16:=(okQ16 hn.2 hoa).2.1
        obtain ⟨b,off,rfl⟩:=hW.rd.first (by omega)
        obtain ⟨hbl,y0,y1,y2,y3⟩:=hW.rd.cellsAt (pgs_drop ha)
        simp only [pg] at y0 y1 y2 y3
        obtain ⟨t0,t1,t2,_⟩:=hW.1.three
        have HB:=HA
        have hi1:(n:Int)+(q:Int) < ((2 * n:Nat):Int):=by omega
        have hi2:(q:Int)+(n:Int) < ((2 * n:Nat):Int):=by omega
        clear hW ha
        have EX:=zH (xB_at (k:=k) HB.out)
        have EZ:=zH (zB_at (k:=k) HB.out)
        cases hx:bitB a.x k
        ·skip
         cases hz:bitB a.z k
         ·skip
          go_wp2_with fail
          refine (i_rX R W n (q+n) k c0 c1 ((q:Int)+(n:Int)) _ A1 _ _ a _ HW.out HA.out (by omega) (by omega) hn.2 hx16 (by omega)).mono ?_
          rintro e wq ⟨rfl,rfl⟩
          go_wp2_with fail
          refine (i_rX R W n (q+n) k c0 c1 ((q:Int)+(n:Int)) _ A1 _ _ a _ HW.out HA.out (by omega) (by omega) hn.2 hx16 (by omega)).mono ?_
          rintro e wq ⟨rfl,rfl⟩
          go_wp2_with fail
          go_roundg (gk - 1)
          all_goals first
           |omega
           |exact ⟨k+1,_,by omega,by go_num,by omega,by have:=NX.out;rwa [show f3 n q k s=s by unfold f3;(try rw [EX.out]);(try rw [EZ.out]);(try rw [hx]);(try rw [hz]);rfl] at this,HS.out.mono (by omega)⟩
         ·skip
          go_wp2_with fail
          refine (i_rX R W n (q+n) k c0 c1 ((q:Int)+(n:Int)) _ A1 _ _ a _ HW.out HA.out (by omega) (by omega) hn.2 hx16 (by omega)).mono ?_
          rintro e wq ⟨rfl,rfl⟩
          go_wp2_with fail
          refine (i_rX R W n (q+n) k c0 c1 ((q:Int)+(n:Int)) _ A1 _ _ a _ HW.out HA.out (by omega) (by omega) hn.2 hx16 (by omega)).mono ?_
          rintro e wq ⟨rfl,rfl⟩
          go_wp2_with fail
          go_roundg (gk - 1)
          all_goals first
           |omega
           |exact ⟨k+1,_,by omega,by go_num,by omega,by have:=NX.out;rwa [show f3 n q k s=s by unfold f3;(try rw [EX.out]);(try rw [EZ.out]);(try rw [hx]);(try rw [hz]);rfl] at this,HS.out.mono (by omega)⟩
        ·skip
         cases hz:bitB a.z k
         ·skip
          go_wp2_with fail
          refine (i_rX R W n (q+n) k c0 c1 ((q:Int)+(n:Int)) _ A1 _ _ a _ HW.out HA.out (by omega) (by omega) hn.2 hx16 (by omega)).mono ?_
          rintro e wq ⟨rfl,rfl⟩
          go_wp2_with fail
          refine (i_rZ R W n (q+n) k c0 c1 ((q:Int)+(n:Int)) _ A1 _ _ a _ HW.out HA.out (by omega) (by omega) hn.2 hz16 (by omega)).mono ?_
          rintro e wq ⟨rfl,rfl⟩
          go_wp2_with fail
          refine (i_rX R W n (q+n) k c0 c1 ((q:Int)+(n:Int)) _ A1 _ _ a _ HW.out HA.out (by omega) (by omega) hn.2 hx16 (by omega)).mono ?_
          rintro e wq ⟨rfl,rfl⟩
          go_wp2_with fail
          refine (i_Emit R W n (B0+1 * n+1+1 * n+2 * k) _ 4 k 0 _ w0 _ hn HS.out rfl (one_okS hn (by omega) (show (4:Int) ∈ oneKs by decide)).1 (one_okS (q:=k) hn (by omega) (show (4:Int) ∈ oneKs by decide)).2 (by omega)).mono ?_
          rintro e wq ⟨rfl,hq0⟩
          have HS:=zH hq0
          clear hq0
          go_wp2_with fail
          go_roundg (gk - 1)
          all_goals first
           |omega
           |exact ⟨k+1,_,by omega,by go_num,by omega,by have:=NX.out;rwa [show f3 n q k s=doS n s 4 k 0 by unfold f3;(try rw [EX.out]);(try rw [EZ.out]);(try rw [hx]);(try rw [hz]);rfl] at this,HS.out.mono (by omega)⟩
         ·skip
          go_wp2_with fail
          refine (i_rX R W n (q+n) k c0 c1 ((q:Int)+(n:Int)) _ A1 _ _ a _ HW.out HA.out (by omega) (by omega) hn.2 hx16 (by omega)).mono ?_
          rintro e wq ⟨rfl,rfl⟩
          go_wp2_with fail
          refine (i_rZ R W n (q+n) k c0 c1 ((q:Int)+(n:Int)) _ A1 _ _ a _ HW.out HA.out (by omega) (by omega) hn.2 hz16 (by omega)).mono ?_
          rintro e wq ⟨rfl,rfl⟩
          go_wp2_with fail
          refine (i_Emit R W n (B0+1 * n+1+1 * n+2 * k) _ 5 k 0 _ w0 _ hn HS.out rfl (one_okS hn (by omega) (show (5:Int) ∈ oneKs by decide)).1 (one_okS (q:=k) hn (by omega) (show (5:Int) ∈ oneKs by decide)).2 (by omega)).mono ?_
          rintro e wq ⟨rfl,hq0⟩
          have HS:=zH hq0
          clear hq0
          go_wp2_with fail
          refine (i_Emit R W n (B0+1 * n+1+1 * n+2 * k+1) _ 4 k 0 _ w0 _ hn HS.out rfl (one_okS hn (by omega) (show (4:Int) ∈ oneKs by decide)).1 (one_okS (q:=k) hn (by omega) (show (4:Int) ∈ oneKs by decide)).2 (by omega)).mono ?_
          rintro e wq ⟨rfl,hq0⟩
          have HS:=zH hq0
          clear hq0
          go_wp2_with fail
          go_roundg (gk - 1)
          all_goals first
           |omega
           |exact ⟨k+1,_,by omega,by go_num,by omega,by have:=NX.out;rwa [show f3 n q k s=doS n (doS n s 5 k 0) 4 k 0 by unfold f3;(try rw [EX.out]);(try rw [EZ.out]);(try rw [hx]);(try rw [hz]);rfl] at this,HS.out.mono (by omega)⟩
       ·obtain rfl:n=k:=by omega
        obtain rfl:gk=0:=by omega
        obtain rfl:s=S4:=hfin
        go_wp2_with fail
        go_meet
        exact HS.out
     case rest =>
      have HS:=zH hcut
      clear hcut
      obtain ⟨wn,rfl⟩:∃ wn,wn=wc:=⟨_,rfl⟩
      go_upto_block 10 with fail
      go_cut [7] from 114 to 126 (fun i wx=>SI R W 163 n (B0+1 * n+1+1 * n+2 * n+1 * n) S5 w0 wx)
      case first =>
       go_wp2_with fail
       go_loopg [7] (n - (q+1)) (fun m i wr=>∃ (k:Nat) (s:SSt),k+m=n/\i=.int .i64 k/\q+1<=k/\loopK (f4 n q) k m s=S5/\SI R W 163 n (B0+1 * n+1+1 * n+2 * n+1 * k) s w0 wr)
       case atStart=>exact ⟨q+1,_,by omega,by go_num,by omega,HS5.out,HS.out.mono (by omega)⟩
       case round =>
        clear HS HS5
        obtain ⟨k,s,hk,rfl,hqk,hfin,hS⟩:=hrel
        have HS:=zH hS
        clear hS
        by_cases hlt:k < n
        ·have NX:=zH (loopK_next hlt hk hfin)
         clear hfin
         obtain ⟨a,ha,hoa,A0,c0,A1,c1,hW⟩:=HS.out.row (i:=q+n) (by omega)
         have HW:=zH hW
         have HA:=zH ha
         have hx16:=(okQ16 hn.2 hoa).1
         have hz16:=(okQ16 hn.2 hoa).2.1
         obtain ⟨b,off,rfl⟩:=hW.rd.first (by omega)
         obtain ⟨hbl,y0,y1,y2,y3⟩:=hW.rd.cellsAt (pgs_drop ha)
         simp only [pg] at y0 y1 y2 y3
         obtain ⟨t0,t1,t2,_⟩:=hW.1.three
         have HB:=HA
         have hi1:(n:Int)+(q:Int) < ((2 * n:Nat):Int):=by omega
         have hi2:(q:Int)+(n:Int) < ((2 * n:Nat):Int):=by omega
         clear hW ha
         have EX:=zH (xB_at (k:=k) HB.out)
         have EZ:=zH (zB_at (k:=k) HB.out)
         cases hz:bitB a.z k
         ·skip
          go_wp2_with fail
          refine (i_rZ R W n (q+n) k c0 c1 ((q:Int)+(n:Int)) _ A1 _ _ a _ HW.out HA.out (by omega) (by omega) hn.2 hz16 (by omega)).mono ?_
          rintro e wq ⟨rfl,rfl⟩
          go_wp2_with fail
          go_roundg (gk - 1)
          all_goals first
           |omega
           |exact ⟨k+1,_,by omega,by go_num,by omega,by have:=NX.out;rwa [show f4 n q k s=s by unfold f4;(try rw [EX.out]);(try rw [EZ.out]);(try rw [hx]);(try rw [hz]);rfl] at this,HS.out.mono (by omega)⟩
         ·skip
          go_wp2_with fail
          refine (i_rZ R W n (q+n) k c0 c1 ((q:Int)+(n:Int)) _ A1 _ _ a _ HW.out HA.out (by omega) (by omega) hn.2 hz16 (by omega)).mono ?_
          rintro e wq ⟨rfl,rfl⟩
          go_wp2_with fail
          refine (i_Emit R W n (B0+1 * n+1+1 * n+2 * n+1 * k) _ 9 k q _ w0 _ hn HS.out rfl (two_okS hn (show k < n by omega) (show q < n by omega) (by omega)).1 (by decide) (by omega)).mono ?_
          rintro e wq ⟨rfl,hq0⟩
          have HS:=zH hq0
          clear hq0
          go_wp2_with fail
          go_roundg (gk - 1)
          all_goals first
           |omega
           |exact ⟨k+1,_,by omega,by go_num,by omega,by have:=NX.out;rwa [show f4 n q k s=doS n s 9 k q by unfold f4;(try rw [EX.out]);(try rw [EZ.out]);(try rw [hx]);(try rw [hz]);rfl] at this,HS.out.mono (by omega)⟩
        ·obtain rfl:n=k:=by omega
         obtain rfl:gk=0:=by omega
         obtain rfl:s=S5:=hfin
         go_wp2_with fail
         go_meet
         exact HS.out
      case rest =>
       have HS:=zH hcut
       clear hcut
       obtain ⟨wn,rfl⟩:∃ wn,wn=wc:=⟨_,rfl⟩
       obtain ⟨a,ha,hoa,A0,c0,A1,c1,hW⟩:=HS.out.row (i:=q+n) (by omega)
       have HW:=zH hW
       have HA:=zH ha
       have hx16:=(okQ16 hn.2 hoa).1
       have hz16:=(okQ16 hn.2 hoa).2.1
       obtain ⟨b,off,rfl⟩:=hW.rd.first (by omega)
       obtain ⟨hbl,y0,y1,y2,y3⟩:=hW.rd.cellsAt (pgs_drop ha)
       simp only [pg] at y0 y1 y2 y3
       obtain ⟨t0,t1,t2,_⟩:=hW.1.three
       have HB:=HA
       have hi1:(n:Int)+(q:Int) < ((2 * n:Nat):Int):=by omega
       have hi2:(q:Int)+(n:Int) < ((2 * n:Nat):Int):=by omega
       clear hW ha
       have EX:=zH (xB_at (k:=q) HB.out)
       go_wp2_with fail
       refine (i_rX R W n (q+n) q c0 c1 ((q:Int)+(n:Int)) _ A1 _ _ a _ HW.out HA.out (by omega) (by omega) hn.2 hx16 (by omega)).mono ?_
       rintro e wq ⟨rfl,rfl⟩
       go_upto_if 130 with fail
       go_cut [131] from 130 to 139 (fun i wx=>SI R W 163 n (B0+1 * n+1+1 * n+2 * n+1 * n+3) S6 w0 wx)
       case first =>
        cases hx:bitB a.x q
        ·skip
         have HE:=zH (show S5=S6 by have:=HS6.out;unfold hH at this;rwa [EX.out,if_neg (by first | (rw [hx];decide) | assumption)] at this)
         go_wp2_with fail
         go_meet
         exact HE.out ▸ HS.out.mono (by omega)
        ·skip
         have HE:=zH (show doS n (doS n (doS n S5 4 q 0) 5 q 0) 4 q 0=S6 by have:=HS6.out;unfold hH at this;rwa [EX.out,if_pos (by first | exact hx | decide | assumption)] at this)
         go_wp2_with fail
         refine (i_Emit R W n (B0+1 * n+1+1 * n+2 * n+1 * n) _ 4 q 0 _ w0 _ hn HS.out rfl (one_okS hn (by omega) (show (4:Int) ∈ oneKs by decide)).1 (one_okS (q:=q) hn (by omega) (show (4:Int) ∈ oneKs by decide)).2 (by omega)).mono ?_
         rintro e wq ⟨rfl,hq0⟩
         have HS:=zH hq0
         clear hq0
         go_wp2_with fail
         refine (i_Emit R W n (B0+1 * n+1+1 * n+2 * n+1 * n+1) _ 5 q 0 _ w0 _ hn HS.out rfl (one_okS hn (by omega) (show (5:Int) ∈ oneKs by decide)).1 (one_okS (q:=q) hn (by omega) (show (5:Int) ∈ oneKs by decide)).2 (by omega)).mono ?_
         rintro e wq ⟨rfl,hq0⟩
         have HS:=zH hq0
         clear hq0
         go_wp2_with fail
         refine (i_Emit R W n (B0+1 * n+1+1 * n+2 * n+1 * n+1+1) _ 4 q 0 _ w0 _ hn HS.out rfl (one_okS hn (by omega) (show (4:Int) ∈ oneKs by decide)).1 (one_okS (q:=q) hn (by omega) (show (4:Int) ∈ oneKs by decide)).2 (by omega)).mono ?_
         rintro e wq ⟨rfl,hq0⟩
         have HS:=zH hq0
         clear hq0
         go_wp2_with fail
         go_meet
         exact HE.out ▸ HS.out.mono (by omega)
       case rest =>
        have HS:=zH hcut
        clear hcut
        obtain ⟨wn,rfl⟩:∃ wn,wn=wc:=⟨_,rfl⟩
        clear HW HA HB EX hx16 hz16 hoa
        try clear hi1 hi2
        try clear hi1
        obtain ⟨a,ha,hoa,A0,c0,A1,c1,hW⟩:=HS.out.row (i:=q) (by omega)
        have HW:=zH hW
        have HA:=zH ha
        have hx16:=(okQ16 hn.2 hoa).1
        have hz16:=(okQ16 hn.2 hoa).2.1
        obtain ⟨b,off,rfl⟩:=hW.rd.first (by omega)
        obtain ⟨hbl,y0,y1,y2,y3⟩:=hW.rd.cellsAt (pgs_drop ha)
        simp only [pg] at y0 y1 y2 y3
        obtain ⟨t0,t1,t2,_⟩:=hW.1.three
        have HB:=HA
        have hi1:(q:Int) < ((2 * n:Nat):Int):=by omega
        clear hW ha
        have EX:=zH (rowP_at HB.out)
        go_upto_if 149 with fail
        go_cut [150] from 148 to 152 (fun i wx=>SI R W 163 n (B0+1 * n+1+1 * n+2 * n+1 * n+3+1) S7 w0 wx)
        case first =>
         by_cases hx:a.p=2
         ·have hpb:(((a.p:Nat):Int) == 2)=true:=by simp;omega
          have HE:=zH (show doS n S6 3 q 0=S7 by have:=HS7.out;unfold pZ at this;rwa [EX.out,if_pos (by first | exact hx | decide | assumption)] at this)
          go_wp2_with fail
          refine (i_Emit R W n (B0+1 * n+1+1 * n+2 * n+1 * n+3) _ 3 q 0 _ w0 _ hn HS.out rfl (one_okS hn (by omega) (show (3:Int) ∈ oneKs by decide)).1 (one_okS (q:=q) hn (by omega) (show (3:Int) ∈ oneKs by decide)).2 (by omega)).mono ?_
          rintro e wq ⟨rfl,hq0⟩
          have HS:=zH hq0
          clear hq0
          go_wp2_with fail
          go_meet
          exact HE.out ▸ HS.out.mono (by omega)
         ·have hpb:(((a.p:Nat):Int) == 2)=false:=by simp;omega
          have HE:=zH (show S6=S7 by have:=HS7.out;unfold pZ at this;rwa [EX.out,if_neg (by first | (rw [hx];decide) | assumption)] at this)
          go_wp2_with fail
          go_meet
          exact HE.out ▸ HS.out.mono (by omega)
        case rest =>
         have HS:=zH hcut
         clear hcut
         obtain ⟨wn,rfl⟩:∃ wn,wn=wc:=⟨_,rfl⟩
         clear HW HA HB EX hx16 hz16 hoa
         try clear hi1 hi2
         try clear hi1
         obtain ⟨a,ha,hoa,A0,c0,A1,c1,hW⟩:=HS.out.row (i:=q+n) (by omega)
         have HW:=zH hW
         have HA:=zH ha
         have hx16:=(okQ16 hn.2 hoa).1
         have hz16:=(okQ16 hn.2 hoa).2.1
         obtain ⟨b,off,rfl⟩:=hW.rd.first (by omega)
         obtain ⟨hbl,y0,y1,y2,y3⟩:=hW.rd.cellsAt (pgs_drop ha)
         simp only [pg] at y0 y1 y2 y3
         obtain ⟨t0,t1,t2,_⟩:=hW.1.three
         have HB:=HA
         have hi1:(n:Int)+(q:Int) < ((2 * n:Nat):Int):=by omega
         have hi2:(q:Int)+(n:Int) < ((2 * n:Nat):Int):=by omega
         clear hW ha
         have EX:=zH (rowP_at HB.out)
         by_cases hx:a.p=2
         ·have hpb:(((a.p:Nat):Int) == 2)=true:=by simp;omega
          have HE:=zH (show doS n S7 1 q 0=S8 by have:=HS8.out;unfold pX at this;rwa [EX.out,if_pos hx] at this)
          go_wp2_with fail
          refine (i_Emit R W n (B0+1 * n+1+1 * n+2 * n+1 * n+3+1) _ 1 q 0 _ w0 _ hn HS.out rfl (one_okS hn (by omega) (show (1:Int) ∈ oneKs by decide)).1 (one_okS (q:=q) hn (by omega) (show (1:Int) ∈ oneKs by decide)).2 (by omega)).mono ?_
          rintro e wq ⟨rfl,hq0⟩
          have HS:=zH hq0
          clear hq0
          go_wp2_with fail
          (first | go_ret | go_end0)
          exact ⟨rfl,by rw [HE3.out,HE8.out,<- HE.out];exact HS.out.mono (by omega)⟩
         ·have hpb:(((a.p:Nat):Int) == 2)=false:=by simp;omega
          have HE:=zH (show S7=S8 by have:=HS8.out;unfold pX at this;rwa [EX.out,if_neg hx] at this)
          go_wp2_with fail
          (first | go_ret | go_end0)
          exact ⟨rfl,by rw [HE3.out,HE8.out,<- HE.out];exact HS.out.mono (by omega)⟩
theorem k2K {w':World} {g t:Nat} {a b:Value} (h:Bx w' g t #[a,b]):w'.cell? ⟨g,0,none⟩=some a/\w'.cell? ⟨g,1,none⟩=some b/\True:=⟨h.cell 0,h.cell 1,trivial⟩
theorem own_S2 {w':World} {base g1:Nat} {e:TypeId} {sz n:Nat} {v:Value} {xs:List Value} {a b:Value} (h:w'.ownsRow base e sz v n xs) (hg:g1 < base):(S2 w' g1 a b).ownsRow base e sz v n xs:=own_setT (own_setT h (p:=⟨g1,0,none⟩) hg a) (p:=⟨g1,1,none⟩) hg b
set_option maxRecDepth 100000 in
theorem s_26Copy (n m c:Nat) (A:Option Addr) (r:List Pq) (w:World) (hr:RdG w A m (pgs n r)) (hm:m<=8) :
  Calls Tryz.prog 151 #[.agg #[.int .i64 (n:Nat),.slice A m c]] w (RetTab1 n m r w):=by
 have HT:=zH hr
 have hz4:(Value.agg #[.int .i64 0,.int .i64 0,.int .i64 0,.int .i64 0]).cells.size=4:=rfl
 have X0:=zH (show Bx ((w.alloc (.cells #[.int .i64 (n:Nat),.slice A m c] 73)).alloc (.cells #[.int .i64 0,.slice none 0 0] 73)) w.heap.size 73 _ from (Bx.new w _ _).alloc _)
 have X1:=zH (show Bx ((w.alloc (.cells #[.int .i64 (n:Nat),.slice A m c] 73)).alloc (.cells #[.int .i64 0,.slice none 0 0] 73)) (w.heap.size+1) 73 _ from Bx.new' (by simp))
 have RT:=zH ((HT.out.2.alloc (.cells #[.int .i64 (n:Nat),.slice A m c] 73)).alloc (.cells #[.int .i64 0,.slice none 0 0] 73))
 have BZ:Hid (Below w.heap.size w ((w.alloc (.cells #[.int .i64 (n:Nat),.slice A m c] 73)).alloc (.cells #[.int .i64 0,.slice none 0 0] 73))):=zH (((zW).alloc zR _).alloc (by simp) _)
 clear hr
 go_enter Tryz.func151,Tryz.ntmps151
 go_wp2_with fail
 generalize (w.alloc (.cells #[.int .i64 (n:Nat),.slice A m c] 73)).alloc (.cells #[.int .i64 0,.slice none 0 0] 73)=wz at X0 X1 RT BZ ⊢
 generalize hg1:w.heap.size+1=g1 at X1 ⊢
 generalize hg0:w.heap.size=g0 at X0 hg1 ⊢
 have hne:g0 ≠ g1:=by omega
 have hg1w:g1 < wz.heap.size:=X1.out.lt
 have hbw:w.heap.size<=wz.heap.size:=BZ.out.size
 have hgg:w.heap.size<=g1:=by omega
 go_region_held3 (fun w'=>w'.cell? ⟨g0,0,none⟩=some (.int .i64 (n:Nat))/\w'.cell? ⟨g0,1,none⟩=some (.slice A m c)/\True)
  (first
   |with_reducible exact k2K X0.out.drew
   |with_reducible exact k2K (X0.out.alloc _).drew
   |with_reducible exact k2K ((X0.out.below z3).alloc _)
   |with_reducible exact k2K (X0.out.below z3)
   |with_reducible exact k2K ((X0.out.below z3).far2 hne _ _))
  (first
   |(refine step_mk0 (by rfl) (.tmp 5) (.tmp 7) 71 (by rfl) Tryz.underlying71 infoPauli hz4 (base:=wz.heap.size) (news:=cellsG (pgs n r)) rfl ?_ ?_ rfl ?_ (by omega) (by decide) ?_;(first | with_reducible exact bx_n (by simp) | with_reducible exact Bx.new' (by simp) | with_reducible exact bx_o (Bx.new' (by simp)));(first | exact zR | exact Nat.le_succ _);(first | with_reducible exact Rd.drew (RT.out.alloc _) | with_reducible exact RT.out.alloc _ | with_reducible exact (Rd.drew RT.out).alloc _);intro A3 c3 w3 o3 b3;(first | (with_reducible have z3:=below_trans (keepA (Below.refl _ wz)) b3) | (with_reducible have z3:=below_trans (keepC (Below.refl _ wz)) b3));have ⟨q0,q1,f0,f1⟩:=(X1.out.below z3).two)
   |fail)
 all_goals
  go_wp2_with fail
  refine bodyPost_ret (v:=.agg #[.int .i64 (n:Nat),.slice A3 m c3]) (by simp [results,Tryz.results151,go_sem,q0,q1]) rfl ⟨A3,c3,rfl,?_,?_⟩
  ·exact ownsRow_base (own_S2 o3 hg1w) hbw
  ·exact belowS2 (below_trans BZ.out z3) hgg _ _
abbrev RetGT (l:List Gt) (w:World) (e:Ending) (w':World):Prop :=
 ∃ A c,e=.returned (.tuple #[.slice A l.length c,.bool true])/\w'.ownsRow w.heap.size 39 4 (.slice A l.length c) l.length (cellsG l)/\Below w.heap.size w w'
theorem sok0 {n:Nat} {r:List Pq} (h:okT n r):SOk n (r,[]):=⟨h,fun g hg=>by cases hg⟩
theorem redQ_next {n q m:Nat} {s S:SSt} (hm:0 < m) (h:redQ n q m s=S):redQ n (q+1) (m - 1) (secondQ n q (firstQ n q s))=S:=by
 obtain ⟨j,rfl⟩:∃ j,m=j+1:=⟨m - 1,by omega⟩
 exact h
set_option maxRecDepth 100000 in
theorem s_Reduce (n m c:Nat) (A:Option Addr) (r:List Pq) (w:World) (hn:1<=n/\n<=4) (hr:RdG w A m (pgs n r)) (hmc:m<=c) (hok:okT n r) :
  Calls Tryz.prog 112 #[.agg #[.int .i64 (n:Nat),.slice A m c]] w (RetGT (redT n r) w):=by
 have hm:m=2 * n:=by rw [<- hr.1,pgs_len,hok.1]
 have HW:=zH hr
 have HR:=zH hok
 have X0:=zH (Bx.new w 73 #[.int .i64 (n:Nat),.slice A m c])
 have B0:=zH (show Below w.heap.size w (w.alloc (.cells #[.int .i64 (n:Nat),.slice A m c] 73)) from (zW).alloc zR _)
 have hz4:(Value.agg #[.int .i64 0,.int .i64 0,.int .i64 0,.int .i64 0]).cells.size=4:=rfl
 obtain ⟨SF,eSF⟩:∃ S,redQ n 0 n (r,[])=S:=⟨_,rfl⟩
 have HSF:=zH eSF
 have HL2:=zH (show redT n r=SF.2 by rw [<- eSF];rfl)
 have HM:=zH hm
 have hm8:m<=8:=by omega
 clear hr hok eSF hm
 obtain ⟨x0,x1,_⟩:=X0.out.two
 go_enter Tryz.func112,Tryz.ntmps112
 go_wp2_with fail
 refine (s_IsTab n m c A r _ hn (HW.out.below B0.out) HR.out).mono ?_
 rintro e w1 ⟨rfl,b1⟩
 have X1:=zH (X0.out.below b1)
 have B1:=zH (below_trans B0.out b1)
 clear b1 x0 x1 X0 B0
 obtain ⟨x0,x1,_⟩:=X1.out.two
 go_wp2_with fail
 refine (s_26Copy n m c A r _ (HW.out.below B1.out) hm8).mono ?_
 rintro e w2 ⟨A3,c3,rfl,o3,b3⟩
 have lw1:=B1.out.size
 have X2:=zH ((X1.out.below b3).alloc (.cells #[.int .i64 (n:Nat),.slice A3 m c3,.slice none 0 0] 159))
 have S2':=zH (show SI w1.heap.size w2.heap.size 159 n (26 * 0) (r,[]) w1 (w2.alloc (.cells #[.int .i64 (n:Nat),.slice A3 m c3,.slice none 0 0] 159)) from ⟨sok0 HR.out,zR,⟨A3,c3,none,0,by rw [<- HM.out];exact Bx.new _ _ _,by rw [<- HM.out];exact o3.alloc _,World.ownsRow_nil _ _ _ _,b3.size⟩,b3.alloc b3.size _⟩)
 clear o3 x0 x1
 obtain ⟨W,hW⟩:∃ W,w2.heap.size=W:=⟨_,rfl⟩
 obtain ⟨R,hR⟩:∃ R,w1.heap.size=R:=⟨_,rfl⟩
 rw [hW,hR] at S2'
 rw [hR] at lw1
 have hX1:=X1.out.lt
 rw [hR] at hX1
 have HBX:=zH (fun (wx:World) (h:Below R w1 wx)=>X1.out.below (hR ▸ h))
 have HB1:=zH (fun (wx:World) (h:Below R w1 wx)=>below_trans B1.out (hR ▸ h))
 go_wp2_with fail
 clear hW hR b3 X1 X2 B1
 go_loopg [5] n (fun g i wr=>∃ (q:Nat) (s:SSt),q+g=n/\i=.int .i64 q/\redQ n q g s=SF/\SI R W 159 n (26 * q) s w1 wr)
 case atStart=>exact ⟨0,_,by omega,rfl,HSF.out,S2'.out⟩
 case round =>
  clear S2' HSF
  obtain ⟨q,s,hq,rfl,hfin,hS⟩:=hrel
  have HS:=zH hS
  clear hS
  obtain ⟨x0,x1,_⟩:=(HBX.out _ HS.out.2.2.2).two
  by_cases hlt:q < n
  ·have NX:=zH (redQ_next (by omega) hfin)
   clear hfin
   go_wp2_with fail
   refine (s_First R W n (26 * q) q s w1 _ hn hlt HS.out (by omega)).mono ?_
   rintro e w5 ⟨rfl,h5⟩
   have HS5:=zH h5
   clear h5
   go_wp2_with fail
   refine (s_Second R W n (26 * q+9) q _ w1 _ hn hlt HS5.out (by omega)).mono ?_
   rintro e w6 ⟨rfl,h6⟩
   have HS6:=zH h6
   clear h6
   go_wp2_with fail
   go_roundg (gk - 1)
   all_goals first
    |omega
    |exact ⟨q+1,_,by omega,by go_num,NX.out,HS6.out.mono (by omega)⟩
  ·obtain rfl:n=q:=by omega
   obtain rfl:gk=0:=by omega
   obtain rfl:s=SF:=hfin
   obtain ⟨A0,c0,A1,c1,hW⟩:=HS.out.2.2.1
   obtain ⟨t0,t1,t2,_⟩:=hW.1.three
   have GO:=zH hW.2.2.1
   have hl:=HS.out.2.1
   have lR:R<=wr.heap.size:=HS.out.le
   have bR:=zH (HB1.out _ HS.out.2.2.2)
   clear hW
   have T2:=(show (wr.alloc (.cells #[] 39)).cell? ⟨W,2,none⟩=some (.slice A1 s.2.length c1) from t2 ▸ (((Below.refl wr.heap.size wr).alloc zR (.cells #[] 39)).cell (p:=⟨W,2,none⟩) (by obtain ⟨_,_,_,_,hW⟩:=HS.out.2.2.1;exact hW.1.lt)))
   go_wp2_with (at_builtin;refine wpList_mk0 rfl (.tmp 26) (.tmp 30) 24 rfl Tryz.underlying24 infoGate hz4 (base:=wr.heap.size) rfl (Bx.new' (by simp)) zR rfl ((Rd.own GO.out).alloc _) (by omega) (by decide) ?_;intro A4 c4 w4 o4 b4)
   go_ret2
   rw [HL2.out]
   exact ⟨A4,c4,rfl,ownsRow_base o4 bR.out.size,below_trans (bR.out.alloc bR.out.size _) b4⟩
set_option maxRecDepth 100000 in
theorem i_Reduce (n m c:Nat) (A:Option Addr) (r:List Pq) (w:World) (hn:1<=n/\n<=4) (hr:RdG w A m (pgs n r)) (hmc:m<=c) (hok:okT n r) :
  Calls Tryz.prog 116 #[.agg #[.int .i64 (n:Nat),.slice A m c]] w (RetGT (redT n r) w):=by
 have hm:m=2 * n:=by rw [<- hr.1,pgs_len,hok.1]
 have HW:=zH hr
 have HR:=zH hok
 have X0:=zH (Bx.new w 73 #[.int .i64 (n:Nat),.slice A m c])
 have B0:=zH (show Below w.heap.size w (w.alloc (.cells #[.int .i64 (n:Nat),.slice A m c] 73)) from (zW).alloc zR _)
 have hz4:(Value.agg #[.int .i64 0,.int .i64 0,.int .i64 0,.int .i64 0]).cells.size=4:=rfl
 obtain ⟨SF,eSF⟩:∃ S,redQ n 0 n (r,[])=S:=⟨_,rfl⟩
 have HSF:=zH eSF
 have HL2:=zH (show redT n r=SF.2 by rw [<- eSF];rfl)
 have HM:=zH hm
 have hm8:m<=8:=by omega
 clear hr hok eSF hm
 obtain ⟨x0,x1,_⟩:=X0.out.two
 go_enter Tryz.func116,Tryz.ntmps116
 go_wp2_with fail
 refine (i_IsTab n m c A r _ hn (HW.out.below B0.out) hmc HR.out).mono ?_
 rintro e w1 ⟨rfl,b1⟩
 have X1:=zH (X0.out.below b1)
 have B1:=zH (below_trans B0.out b1)
 have RT:=zH (HW.out.below B1.out).2
 clear b1 x0 x1 X0 B0
 obtain ⟨g0,hg0⟩:∃ x,w.heap.size=x:=⟨_,rfl⟩
 rw [hg0] at X1
 go_upto_region 3 with fail
 clear hg0
 go_cut [4] (fun v4 wx=>∃ W A3 c3,v4=.pointer (some ⟨W,0,none⟩)/\Bx wx W 163 #[.int .i64 (n:Nat),.slice A3 m c3,.slice none 0 0]/\wx.ownsRow w1.heap.size 151 4 (.slice A3 m c3) m (cellsG (pgs n r))/\Below w1.heap.size w1 wx/\w1.heap.size<=W)
 case first =>
  go_region_held3 (fun w'=>w'.cell? ⟨g0,0,none⟩=some (.int .i64 (n:Nat))/\w'.cell? ⟨g0,1,none⟩=some (.slice A m c)/\True)
   (first
    |with_reducible exact k2K X1.out.drew
    |with_reducible exact k2K (X1.out.alloc _).drew
    |with_reducible exact k2K ((X1.out.below z3).alloc _)
    |with_reducible exact k2K (X1.out.below z3))
   (first
    |(refine step_mk0 (by rfl) (.tmp 11) (.tmp 13) 71 (by rfl) Tryz.underlying71 infoPauli hz4 (base:=w1.heap.size) (news:=cellsG (pgs n r)) rfl ?_ ?_ rfl ?_ (by omega) (by decide) ?_;(first | with_reducible exact bx_n (by simp) | with_reducible exact Bx.new' (by simp) | with_reducible exact bx_o (Bx.new' (by simp)));(first | exact zR | exact Nat.le_succ _);(first | with_reducible exact Rd.drew (RT.out.alloc _) | with_reducible exact RT.out.alloc _ | with_reducible exact (Rd.drew RT.out).alloc _);intro A3 c3 w3 o3 b3;(first | (with_reducible have z3:=below_trans (keepA (Below.refl _ w1)) b3) | (with_reducible have z3:=below_trans (keepC (Below.refl _ w1)) b3)))
    |fail)
  all_goals go_wp2_with fail
  all_goals go_meet
  all_goals exact ⟨_,A3,c3,rfl,Bx.new _ _ _,o3.alloc _,z3.alloc z3.size _,z3.size⟩
 case rest =>
  obtain ⟨W,A3,c3,rfl,hBW,hO,hB,hRW⟩:=hcut
  have S2':=zH (show SI w1.heap.size W 163 n (26 * 0) (r,[]) w1 wc from ⟨sok0 HR.out,zR,⟨A3,c3,none,0,by rw [<- HM.out];exact hBW,by rw [<- HM.out];exact hO,World.ownsRow_nil _ _ _ _,hRW⟩,hB⟩)
  clear hBW hO
  obtain ⟨R,hR⟩:∃ R,w1.heap.size=R:=⟨_,rfl⟩
  have lw1:=B1.out.size
  rw [hR] at S2' lw1 hRW
  have hX1:=X1.out.lt
  rw [hR] at hX1
  have HBX:=zH (fun (wx:World) (h:Below R w1 wx)=>X1.out.below (hR ▸ h))
  have HB1:=zH (fun (wx:World) (h:Below R w1 wx)=>below_trans B1.out (hR ▸ h))
  go_wp2_with fail
  clear hR hB X1 B1 RT
  go_loopg [5] n (fun g i wr=>∃ (q:Nat) (s:SSt),q+g=n/\i=.int .i64 q/\redQ n q g s=SF/\SI R W 163 n (26 * q) s w1 wr)
  case atStart=>exact ⟨0,_,by omega,rfl,HSF.out,S2'.out⟩
  case round =>
   clear S2' HSF
   obtain ⟨q,s,hq,rfl,hfin,hS⟩:=hrel
   have HS:=zH hS
   clear hS
   obtain ⟨x0,x1,_⟩:=(HBX.out _ HS.out.2.2.2).two
   by_cases hlt:q < n
   ·have NX:=zH (redQ_next (by omega) hfin)
    clear hfin
    go_wp2_with fail
    refine (i_qubit R W n (26 * q) q s w1 _ hn hlt HS.out (by omega)).mono ?_
    rintro e w5 ⟨rfl,h5⟩
    have HS5:=zH h5
    clear h5
    go_wp2_with fail
    go_roundg (gk - 1)
    all_goals first
     |omega
     |exact ⟨q+1,_,by omega,by go_num,NX.out,HS5.out.mono (by omega)⟩
   ·obtain rfl:n=q:=by omega
    obtain rfl:gk=0:=by omega
    obtain rfl:s=SF:=hfin
    obtain ⟨A0,c0,A1,c1,hW⟩:=HS.out.2.2.1
    obtain ⟨t0,t1,t2,_⟩:=hW.1.three
    have GO:=zH hW.2.2.1
    have bR:=zH (HB1.out _ HS.out.2.2.2)
    clear hW
    go_wp2_with fail
    go_ret2
    rw [HL2.out]
    exact ⟨A1,c1,rfl,ownsRow_base GO.out lw1,bR.out⟩
theorem redT_len {n:Nat} (hn:n<=4) (r:List Pq):(redT n r).length<=104:=by
 have:=redQ_len hn n 0 (r,[])
 unfold redT
 simp only [List.length_nil] at this
 omega
theorem RetGT.of {l:List Gt} {w w1 w':World} {A:Option Addr} {n c:Nat} (hb:Below w.heap.size w w1) (hn:l.length=n) (ho:w'.ownsRow w1.heap.size 39 4 (.slice A n c) n (cellsG l)) (hb2:Below w1.heap.size w1 w'):RetGT l w (.returned (.tuple #[.slice A n c,.bool true])) w':=by
 subst hn
 exact ⟨A,c,rfl,ownsRow_base ho hb.size,below_trans hb hb2⟩
set_option maxRecDepth 100000 in
theorem s_Synth (n m c:Nat) (A:Option Addr) (r:List Pq) (w:World) (hn:1<=n/\n<=4) (hr:RdG w A m (pgs n r)) (hmc:m<=c) (hok:okT n r) :
  Calls Tryz.prog 64 #[.agg #[.int .i64 (n:Nat),.slice A m c]] w (RetGT (invL (redT n r)) w):=by
 have HW:=zH hr
 have HR:=zH hok
 have B0:=zH (show Below w.heap.size w (w.alloc (.cells #[.int .i64 (n:Nat),.slice A m c] 73)) from (zW).alloc zR _)
 clear hr hok
 go_enter Tryz.func64,Tryz.ntmps64
 go_wp2_with fail
 refine (s_Reduce n m c A r _ hn (HW.out.below B0.out) hmc HR.out).mono ?_
 rintro e w1 ⟨A1,c1,rfl,o1,b1⟩
 have O1:=zH o1
 have B1:=zH (below_trans B0.out b1)
 have hl:=redT_len hn.2 r
 clear o1 b1
 go_wp2_with fail
 refine (s_Inv _ c1 A1 (redT n r) _ (RdG.own O1.out) (by omega)).mono ?_
 rintro e w2 ⟨A2,c2,rfl,o2,b2⟩
 go_wp2_with fail
 go_ret2
 exact RetGT.of B1.out (invL_len _) o2 b2
theorem s_IsTab0 (w:World):Calls Tryz.prog 149 #[.agg #[.int .i64 0,.slice none 0 0]] w fun e w'=>e=.returned (.bool false)/\Below w.heap.size w w':=by
 go_enter Tryz.func149,Tryz.ntmps149
 go_wp2_with (go_at_call 50;refine (s_in _ _ _ _).mono ?_;rintro e w1 ⟨rfl,rfl⟩;rw [show inB 0 1 4=false by decide])
 go_ret
 exact ⟨rfl,(zW).alloc zR _⟩
theorem s_Reduce0 (w:World):Calls Tryz.prog 112 #[.agg #[.int .i64 0,.slice none 0 0]] w fun e w'=>(∃ A c,e=.returned (.tuple #[.slice A 0 c,.bool false]))/\Below w.heap.size w w':=by
 go_enter Tryz.func112,Tryz.ntmps112
 go_wp2_with (go_at_call 149;refine (s_IsTab0 _).mono ?_;rintro e w1 ⟨rfl,b1⟩;have b1:=below_alloc b1)
 go_ret2
 exact ⟨⟨_,_,rfl⟩,b1.alloc b1.size _⟩
theorem s_Synth0 (w:World):Calls Tryz.prog 64 #[.agg #[.int .i64 0,.slice none 0 0]] w fun e w'=>(∃ A c,e=.returned (.tuple #[.slice A 0 c,.bool false]))/\Below w.heap.size w w':=by
 go_enter Tryz.func64,Tryz.ntmps64
 go_wp2_with fail
 refine (s_Reduce0 _).mono ?_
 rintro e w1 ⟨⟨A1,c1,rfl⟩,b1⟩
 have b1:=below_alloc b1
 go_wp2_with fail
 refine (s_Inv 0 c1 A1 [] _ ⟨rfl,Rd.zero _ _ _⟩ (by omega)).mono ?_
 rintro e w2 ⟨A2,c2,rfl,o2,b2⟩
 go_wp2_with fail
 go_ret2
 exact ⟨⟨_,_,rfl⟩,below_trans b1 b2⟩
set_option maxRecDepth 100000 in
theorem i_Synth (n m c:Nat) (A:Option Addr) (r:List Pq) (w:World) (hn:1<=n/\n<=4) (hr:RdG w A m (pgs n r)) (hmc:m<=c) (hok:okT n r) :
  Calls Tryz.prog 68 #[.agg #[.int .i64 (n:Nat),.slice A m c]] w (RetGT (invL (redT n r)) w):=by
 have HW:=zH hr
 have HR:=zH hok
 have B0:=zH (show Below w.heap.size w (w.alloc (.cells #[.int .i64 (n:Nat),.slice A m c] 73)) from (zW).alloc zR _)
 clear hr hok
 go_enter Tryz.func68,Tryz.ntmps68
 go_wp2_with fail
 refine (i_Reduce n m c A r _ hn (HW.out.below B0.out) hmc HR.out).mono ?_
 rintro e w1 ⟨A1,c1,rfl,o1,b1⟩
 have O1:=zH o1
 have B1:=zH (below_trans B0.out b1)
 have hl:=redT_len hn.2 r
 clear o1 b1
 go_wp2_with fail
 refine (i_Inv _ c1 A1 (redT n r) _ (RdG.own O1.out) (by omega)).mono ?_
 rintro e w2 ⟨A2,c2,rfl,o2,b2⟩
 go_wp2_with fail
 go_ret2
 exact RetGT.of B1.out (invL_len _) o2 b2
theorem i_IsTab0 (w:World):Calls Tryz.prog 155 #[.agg #[.int .i64 0,.slice none 0 0]] w fun e w'=>e=.returned (.bool false)/\Below w.heap.size w w':=by
 go_enter Tryz.func155,Tryz.ntmps155
 go_wp2_with (go_at_call 70;refine (i_in _ _ _ _).mono ?_;rintro e w1 ⟨rfl,rfl⟩;rw [show inB 0 1 4=false by decide])
 go_ret
 exact ⟨rfl,(zW).alloc zR _⟩
theorem i_Reduce0 (w:World):Calls Tryz.prog 116 #[.agg #[.int .i64 0,.slice none 0 0]] w fun e w'=>(∃ A c,e=.returned (.tuple #[.slice A 0 c,.bool false]))/\Below w.heap.size w w':=by
 go_enter Tryz.func116,Tryz.ntmps116
 go_wp2_with (go_at_call 155;refine (i_IsTab0 _).mono ?_;rintro e w1 ⟨rfl,b1⟩;have b1:=below_alloc b1)
 go_ret2
 exact ⟨⟨_,_,rfl⟩,b1⟩
theorem i_Synth0 (w:World):Calls Tryz.prog 68 #[.agg #[.int .i64 0,.slice none 0 0]] w fun e w'=>(∃ A c,e=.returned (.tuple #[.slice A 0 c,.bool false]))/\Below w.heap.size w w':=by
 go_enter Tryz.func68,Tryz.ntmps68
 go_wp2_with fail
 refine (i_Reduce0 _).mono ?_
 rintro e w1 ⟨⟨A1,c1,rfl⟩,b1⟩
 have b1:=below_alloc b1
 go_wp2_with fail
 go_ret2
 exact ⟨⟨_,_,rfl⟩,b1⟩
theorem okG_inv (k a b c n:Int):okG (invK k) a b c n=okG k a b c n:=by
 have h:arity (invK k)=arity k:=by
  rcases invK_cases k with ⟨h1,h2⟩ | ⟨h1,h2⟩ | ⟨h1,h2⟩ | ⟨h1,h2⟩ | ⟨_,_,_,_,h2⟩
  ·subst h1;rfl
  ·subst h1;rfl
  ·subst h1;rfl
  ·subst h1;rfl
  ·rw [h2]
 unfold okG
 rw [h]
theorem synL_ok {n:Nat} {r:List Pq} (hn:1<=n/\n<=4) (h:okT n r):∀ g ∈ invL (redT n r),okN n g=true:=by
 intro g hg
 unfold invL at hg
 obtain ⟨g0,h0,rfl⟩:=List.mem_map.1 hg
 have:=(redT_ok hn h g0 (by simpa using h0)).1
 unfold okN at this ⊢
 simp only
 rw [okG_inv]
 exact this
def okTn (n:Nat) (r:List Pq):Bool:=decide (r.length=2 * n) && (r.all (fun a=>okQn n a && herQ a) && (List.range (2 * n)).all fun k=>(List.range k).all fun i=>comQ (r.getD i ⟨0,0,0⟩) (r.getD k ⟨0,0,0⟩) == !(decide (k=i+n)))
theorem okTn_ok {n:Nat} {r:List Pq} (h:okTn n r=true):okT n r:=by
 unfold okTn at h
 simp only [Bool.and_eq_true,decide_eq_true_eq,List.all_eq_true,List.mem_range,beq_iff_eq] at h
 obtain ⟨h1,h2,h3⟩:=h
 refine ⟨h1,h2,fun i k a b hik ha hb=>?_⟩
 have hk:k < r.length:=(List.getElem?_eq_some_iff.1 hb).1
 have:=h3 k (by omega) i hik
 rw [List.getD_eq_getElem?_getD,ha,List.getD_eq_getElem?_getD,hb] at this
 exact this
theorem idT_ok {n:Nat} (hn:1<=n/\n<=4):okT n (idT n):=by
 obtain rfl | rfl | rfl | rfl:n=1 ∨ n=2 ∨ n=3 ∨ n=4:=by omega
 all_goals exact okTn_ok (by decide +kernel)
def resy (l:List Gt) (n:Int):Option (List Gt):=if (okC l n && decide ((synL l n.toNat).length<=60))=true then some (synL l n.toNat) else none
abbrev RetCirc (n:Int) (o:Option (List Gt)) (w:World) (e:Ending) (w':World):Prop :=
 match o with
 |some l=>∃ A c,e=.returned (.tuple #[.agg #[.int .i64 n,.slice A l.length c],.bool true])/\w'.ownsRow w.heap.size 39 4 (.slice A l.length c) l.length (cellsG l)/\Below w.heap.size w w'
 |none=>e=.returned (.tuple #[.agg #[.int .i64 0,.slice none 0 0],.bool false])/\Below w.heap.size w w'
theorem synL_len {n:Nat} (hn:n<=4) (l:List Gt):(synL l n).length<=104:=by unfold synL;rw [invL_len];exact redT_len hn _
set_option maxRecDepth 100000 in
theorem s_CirTab0 (n:Int) (m c:Nat) (A:Option Addr) (l:List Gt) (w:World) (hr:RdG w A m l) (hm:m<=1073741824) (hv:okC l n=false) :
  Calls Tryz.prog 63 #[.agg #[.int .i64 n,.slice A m c]] w fun e w'=>e=.returned (.tuple #[.agg #[.int .i64 0,.slice none 0 0],.bool false])/\Below w.heap.size w w':=by
 have R0:=zH (show Bx ((w.alloc (.cells #[.int .i64 n,.slice A m c] 45)).alloc (.cells #[.int .i64 0,.slice none 0 0] 73)) (w.heap.size+1) 73 #[.int .i64 0,.slice none 0 0] from Bx.new' (by simp))
 have B0:=zH (show Below w.heap.size w ((w.alloc (.cells #[.int .i64 n,.slice A m c] 45)).alloc (.cells #[.int .i64 0,.slice none 0 0] 73)) from ((zW).alloc zR _).alloc (by simp) _)
 have HW:=zH hr
 have HV:=zH hv
 clear hr hv
 go_enter Tryz.func63,Tryz.ntmps63
 go_wp2_with fail
 refine (s_ValC A m c n l _ (HW.out.below B0.out) hm).mono ?_
 rintro e w1 ⟨rfl,b1⟩
 rw [HV.out]
 have R1:=zH (R0.out.below b1)
 have B1:=zH (below_trans B0.out b1)
 clear b1 R0 B0
 obtain ⟨r0,r1,r2,r3⟩:=R1.out.two
 go_wp2_with fail
 have RB:=R1.out
 with_reducible refine ret_S2 RB ?_ ?_ ⟨rfl,?_⟩
 ·intro wS z0 z1;simp [results,Tryz.results63,go_sem,z0,z1]
 ·rfl
 ·exact belowS2 B1.out (by omega) _ _
set_option maxRecDepth 100000 in
theorem s_Resy (n:Int) (m c:Nat) (A:Option Addr) (l:List Gt) (w:World) (hr:RdG w A m l) (hm:m<=1073741824) (hcl:∀ g ∈ l,cliff g.k=true) :
  Calls Tryz.prog 32 #[.agg #[.int .i64 n,.slice A m c]] w (RetCirc n (resy l n) w):=by
 have X0:=zH (show Bx ((w.alloc (.cells #[.int .i64 n,.slice A m c] 45)).alloc (.cells #[.int .i64 0,.slice none 0 0] 45)) w.heap.size 45 _ from (Bx.new w _ _).alloc _)
 have R0:=zH (show Bx ((w.alloc (.cells #[.int .i64 n,.slice A m c] 45)).alloc (.cells #[.int .i64 0,.slice none 0 0] 45)) (w.heap.size+1) 45 #[.int .i64 0,.slice none 0 0] from Bx.new' (by simp))
 have B0:=zH (show Below w.heap.size w ((w.alloc (.cells #[.int .i64 n,.slice A m c] 45)).alloc (.cells #[.int .i64 0,.slice none 0 0] 45)) from ((zW).alloc zR _).alloc (by simp) _)
 have HW:=zH hr
 have HC:=zH hcl
 clear hr hcl
 obtain ⟨x0,x1,_⟩:=X0.out.two
 cases hv:okC l n
 ·have HV:=zH hv
  have HZ:=zH (show resy l n=none by unfold resy;rw [hv];rfl)
  clear hv
  go_enter Tryz.func32,Tryz.ntmps32
  go_wp2_with fail
  refine (s_CirTab0 n m c A l _ (HW.out.below B0.out) hm HV.out).mono ?_
  rintro e w1 ⟨rfl,b1⟩
  have X1:=zH ((X0.out.below b1).alloc (.cells #[.int .i64 0,.slice none 0 0] 73))
  have R1:=zH ((R0.out.below b1).alloc (.cells #[.int .i64 0,.slice none 0 0] 73))
  have B1:=zH ((below_trans B0.out b1).alloc (below_trans B0.out b1).size (.cells #[.int .i64 0,.slice none 0 0] 73))
  clear b1 X0 R0 B0 x0 x1
  obtain ⟨x0,x1,_⟩:=X1.out.two
  go_wp2_with fail
  refine (s_Synth0 _).mono ?_
  rintro e w2 ⟨⟨A2,c2,rfl⟩,b2⟩
  have X2:=zH (X1.out.below b2)
  have R2:=zH ((R1.out.below b2).alloc (.cells #[.int .i64 n,.slice A2 0 c2] 45))
  have B2:=zH ((below_trans B1.out b2).alloc (below_trans B1.out b2).size (.cells #[.int .i64 n,.slice A2 0 c2] 45))
  clear b2 X1 R1 B1 x0 x1
  obtain ⟨x0,x1,_⟩:=X2.out.two
  obtain ⟨r0,r1,r2,r3⟩:=R2.out.two
  go_wp2_with fail
  rw [HZ.out]
  have RB:=R2.out
  with_reducible refine ret_S2 RB ?_ ?_ ⟨rfl,?_⟩
  ·intro wS z0 z1;simp [results,Tryz.results32,go_sem,z0,z1]
  ·rfl
  ·exact belowS2 B2.out (by omega) _ _
 ·obtain ⟨hn,hm60,hok⟩:(1<=n/\n<=4)/\l.length<=60/\okA l n=true:=by
   unfold okC at hv
   simp only [Bool.and_eq_true,decide_eq_true_eq] at hv
   exact ⟨inB_iff.1 hv.1,hv.2.1,hv.2.2⟩
  obtain ⟨N,rfl⟩:∃ N:Nat,n=(N:Nat):=⟨n.toNat,by omega⟩
  have hN:1<=N/\N<=4:=by omega
  have HL:=zH (show ∀ g ∈ l,okN N g=true/\cliff g.k=true from fun g hg=>⟨List.all_eq_true.1 hok g hg,HC.out g hg⟩)
  have hm60':m<=60:=by have:=HW.out.1;omega
  have HT:=zH (runT_ok l (idT N) HL.out (idT_ok hN))
  have HSL:=zH (synL_len hN.2 l)
  have HE:=zH (show invL (redT N (runT N l (idT N)))=synL l N from rfl)
  obtain ⟨sl,hsl⟩:∃ s,(synL l N).length=s:=⟨_,rfl⟩
  have hs104:sl<=104:=by rw [<- hsl];exact HSL.out
  have HSV:=zH (show okC (synL l N) N=decide (sl<=60) by
   have ha:okA (synL l N) N=true:=List.all_eq_true.2 (synL_ok hN HT.out)
   unfold okC
   rw [inB_t (by omega) (by omega),ha,hsl,Bool.true_and,Bool.and_true])
  have HZ:=zH (show resy l N=if decide (sl<=60)=true then some (synL l N) else none by unfold resy;rw [hv,Int.toNat_natCast,hsl,Bool.true_and])
  have HSLN:=zH hsl
  clear hv hn hok hsl
  go_enter Tryz.func32,Tryz.ntmps32
  go_wp2_with fail
  refine (s_CirTab N m c A l _ hN (HW.out.below B0.out) hm60' HL.out (idT_ok hN)).mono ?_
  rintro e w1 ⟨A1,c1,rfl,o1,b1⟩
  have X1:=zH ((X0.out.below b1).alloc (.cells #[.int .i64 (N:Nat),.slice A1 (2 * N) c1] 73))
  have R1:=zH ((R0.out.below b1).alloc (.cells #[.int .i64 (N:Nat),.slice A1 (2 * N) c1] 73))
  have B1:=zH ((below_trans B0.out b1).alloc (below_trans B0.out b1).size (.cells #[.int .i64 (N:Nat),.slice A1 (2 * N) c1] 73))
  have O1:=zH (o1.alloc (.cells #[.int .i64 (N:Nat),.slice A1 (2 * N) c1] 73))
  clear o1 b1 X0 R0 B0 x0 x1
  obtain ⟨x0,x1,_⟩:=X1.out.two
  go_wp2_with fail
  refine (s_Synth N (2 * N) c1 A1 (runT N l (idT N)) _ hN (RdG.own O1.out) (ownsRow_cap O1.out) HT.out).mono ?_
  rintro e w2 ⟨A2,c2,rfl,o2,b2⟩
  rw [HE.out,HSLN.out] at o2 ⊢
  have X2:=zH ((X1.out.below b2).alloc (.cells #[.int .i64 (N:Nat),.slice A2 sl c2] 45))
  have R2:=zH ((R1.out.below b2).alloc (.cells #[.int .i64 (N:Nat),.slice A2 sl c2] 45))
  have B2:=zH ((below_trans B1.out b2).alloc (below_trans B1.out b2).size (.cells #[.int .i64 (N:Nat),.slice A2 sl c2] 45))
  have O2:=zH (ownsRow_base (base':=w.heap.size) (o2.alloc (.cells #[.int .i64 (N:Nat),.slice A2 sl c2] 45)) B1.out.size)
  have C2:=zH (Bx.new w2 45 #[.int .i64 (N:Nat),.slice A2 sl c2])
  have xx:=(X1.out.below b2).two
  clear o2 b2 X1 R1 B1 O1 x0 x1
  obtain ⟨x0,x1,_⟩:=xx
  go_wp2_with fail
  refine (s_ValC A2 sl c2 (N:Nat) (synL l N) _ (RdG.own O2.out) (by omega)).mono ?_
  rintro e w3 ⟨rfl,b3⟩
  rw [HSV.out]
  have R3:=zH (R2.out.below b3)
  have B3:=zH (below_trans B2.out b3)
  have O3:=zH (ownsRow_below O2.out b3)
  have C3:=zH (C2.out.below b3)
  clear b3 X2 R2 B2 O2 C2 x0 x1
  obtain ⟨r0,r1,r2,r3⟩:=R3.out.two
  obtain ⟨p0,p1,_⟩:=C3.out.two
  cases hd:decide (sl<=60)
  ·have HZ:=zH (show resy l N=none from by rw [HZ.out,hd];rfl)
   go_wp2_with fail
   rw [HZ.out]
   have RB:=R3.out
   with_reducible refine ret_S2 RB ?_ ?_ ⟨rfl,?_⟩
   ·intro wS z0 z1;simp [results,Tryz.results32,go_sem,z0,z1]
   ·rfl
   ·exact belowS2 B3.out (by omega) _ _
  ·have HZ:=zH (show resy l N=some (synL l N) from by rw [HZ.out,hd];rfl)
   go_wp2_with fail
   rw [HZ.out]
   have RB:=R3.out
   have h1:Bx (w3.setCell ⟨w.heap.size+1,0,none⟩ (.int .i64 (N:Nat))) (w.heap.size+1) 45 #[.int .i64 (N:Nat),.slice none 0 0]:=by simpa using RB.set_ 0 (.int .i64 (N:Nat))
   with_reducible refine ret_S2 (v:=.tuple #[.agg #[.int .i64 (N:Nat),.slice A2 sl c2],.bool true]) RB ?_ ?_ ⟨A2,c2,?_,?_,?_⟩
   ·intro wS z0 z1;simp [results,Tryz.results32,go_sem,z0,z1]
   ·rfl
   ·rw [HSLN.out]
   ·rw [HSLN.out];exact own_farT (own_farT O3.out RB (by decide) 0 _) h1 (by decide) 1 _
   ·exact belowS2 B3.out (by omega) _ _
set_option maxRecDepth 100000 in
theorem i_CirTab0 (n:Int) (m c:Nat) (A:Option Addr) (l:List Gt) (w:World) (hr:RdG w A m l) (hm:m<=1073741824) (hv:okC l n=false) :
  Calls Tryz.prog 67 #[.agg #[.int .i64 n,.slice A m c]] w fun e w'=>e=.returned (.tuple #[.agg #[.int .i64 0,.slice none 0 0],.bool false])/\Below w.heap.size w w':=by
 have R0:=zH (show Bx ((w.alloc (.cells #[.int .i64 n,.slice A m c] 45)).alloc (.cells #[.int .i64 0,.slice none 0 0] 73)) (w.heap.size+1) 73 #[.int .i64 0,.slice none 0 0] from Bx.new' (by simp))
 have B0:=zH (show Below w.heap.size w ((w.alloc (.cells #[.int .i64 n,.slice A m c] 45)).alloc (.cells #[.int .i64 0,.slice none 0 0] 73)) from ((zW).alloc zR _).alloc (by simp) _)
 have HW:=zH hr
 have HV:=zH hv
 clear hr hv
 go_enter Tryz.func67,Tryz.ntmps67
 go_wp2_with fail
 refine (i_ValC A m c n l _ (HW.out.below B0.out) hm).mono ?_
 rintro e w1 ⟨rfl,b1⟩
 rw [HV.out]
 have R1:=zH (R0.out.below b1)
 have B1:=zH (below_trans B0.out b1)
 clear b1 R0 B0
 obtain ⟨r0,r1,r2,r3⟩:=R1.out.two
 go_wp2_with fail
 have RB:=R1.out
 with_reducible refine ret_S2 RB ?_ ?_ ⟨rfl,?_⟩
 ·intro wS z0 z1;simp [results,Tryz.results67,go_sem,z0,z1]
 ·rfl
 ·exact belowS2 B1.out (by omega) _ _
set_option maxRecDepth 100000 in
theorem i_Resy (n:Int) (m c:Nat) (A:Option Addr) (l:List Gt) (w:World) (hr:RdG w A m l) (hm:m<=1073741824) (hcl:∀ g ∈ l,cliff g.k=true) :
  Calls Tryz.prog 37 #[.agg #[.int .i64 n,.slice A m c]] w (RetCirc n (resy l n) w):=by
 have X0:=zH (show Bx ((w.alloc (.cells #[.int .i64 n,.slice A m c] 45)).alloc (.cells #[.int .i64 0,.slice none 0 0] 45)) w.heap.size 45 _ from (Bx.new w _ _).alloc _)
 have R0:=zH (show Bx ((w.alloc (.cells #[.int .i64 n,.slice A m c] 45)).alloc (.cells #[.int .i64 0,.slice none 0 0] 45)) (w.heap.size+1) 45 #[.int .i64 0,.slice none 0 0] from Bx.new' (by simp))
 have B0:=zH (show Below w.heap.size w ((w.alloc (.cells #[.int .i64 n,.slice A m c] 45)).alloc (.cells #[.int .i64 0,.slice none 0 0] 45)) from ((zW).alloc zR _).alloc (by simp) _)
 have HW:=zH hr
 have HC:=zH hcl
 clear hr hcl
 obtain ⟨x0,x1,_⟩:=X0.out.two
 cases hv:okC l n
 ·have HV:=zH hv
  have HZ:=zH (show resy l n=none by unfold resy;rw [hv];rfl)
  clear hv
  go_enter Tryz.func37,Tryz.ntmps37
  go_wp2_with fail
  refine (i_CirTab0 n m c A l _ (HW.out.below B0.out) hm HV.out).mono ?_
  rintro e w1 ⟨rfl,b1⟩
  have X1:=zH ((X0.out.below b1).alloc (.cells #[.int .i64 0,.slice none 0 0] 73))
  have R1:=zH ((R0.out.below b1).alloc (.cells #[.int .i64 0,.slice none 0 0] 73))
  have B1:=zH ((below_trans B0.out b1).alloc (below_trans B0.out b1).size (.cells #[.int .i64 0,.slice none 0 0] 73))
  clear b1 X0 R0 B0 x0 x1
  obtain ⟨x0,x1,_⟩:=X1.out.two
  go_wp2_with fail
  refine (i_Synth0 _).mono ?_
  rintro e w2 ⟨⟨A2,c2,rfl⟩,b2⟩
  have X2:=zH (X1.out.below b2)
  have R2:=zH ((R1.out.below b2).alloc (.cells #[.int .i64 n,.slice A2 0 c2] 45))
  have B2:=zH ((below_trans B1.out b2).alloc (below_trans B1.out b2).size (.cells #[.int .i64 n,.slice A2 0 c2] 45))
  clear b2 X1 R1 B1 x0 x1
  obtain ⟨x0,x1,_⟩:=X2.out.two
  obtain ⟨r0,r1,r2,r3⟩:=R2.out.two
  go_wp2_with fail
  rw [HZ.out]
  have RB:=R2.out
  with_reducible refine ret_S2 RB ?_ ?_ ⟨rfl,?_⟩
  ·intro wS z0 z1;simp [results,Tryz.results37,go_sem,z0,z1]
  ·rfl
  ·exact belowS2 B2.out (by omega) _ _
 ·obtain ⟨hn,hm60,hok⟩:(1<=n/\n<=4)/\l.length<=60/\okA l n=true:=by
   unfold okC at hv
   simp only [Bool.and_eq_true,decide_eq_true_eq] at hv
   exact ⟨inB_iff.1 hv.1,hv.2.1,hv.2.2⟩
  obtain ⟨N,rfl⟩:∃ N:Nat,n=(N:Nat):=⟨n.toNat,by omega⟩
  have hN:1<=N/\N<=4:=by omega
  have HL:=zH (show ∀ g ∈ l,okN N g=true/\cliff g.k=true from fun g hg=>⟨List.all_eq_true.1 hok g hg,HC.out g hg⟩)
  have hm60':m<=60:=by have:=HW.out.1;omega
  have HT:=zH (runT_ok l (idT N) HL.out (idT_ok hN))
  have HSL:=zH (synL_len hN.2 l)
  have HE:=zH (show invL (redT N (runT N l (idT N)))=synL l N from rfl)
  obtain ⟨sl,hsl⟩:∃ s,(synL l N).length=s:=⟨_,rfl⟩
  have hs104:sl<=104:=by rw [<- hsl];exact HSL.out
  have HSV:=zH (show okC (synL l N) N=decide (sl<=60) by
   have ha:okA (synL l N) N=true:=List.all_eq_true.2 (synL_ok hN HT.out)
   unfold okC
   rw [inB_t (by omega) (by omega),ha,hsl,Bool.true_and,Bool.and_true])
  have HZ:=zH (show resy l N=if decide (sl<=60)=true then some (synL l N) else none by unfold resy;rw [hv,Int.toNat_natCast,hsl,Bool.true_and])
  have HSLN:=zH hsl
  clear hv hn hok hsl
  go_enter Tryz.func37,Tryz.ntmps37
  go_wp2_with fail
  refine (i_CirTab N m c A l _ hN (HW.out.below B0.out) hm60' HL.out (idT_ok hN)).mono ?_
  rintro e w1 ⟨A1,c1,rfl,o1,b1⟩
  have X1:=zH ((X0.out.below b1).alloc (.cells #[.int .i64 (N:Nat),.slice A1 (2 * N) c1] 73))
  have R1:=zH ((R0.out.below b1).alloc (.cells #[.int .i64 (N:Nat),.slice A1 (2 * N) c1] 73))
  have B1:=zH ((below_trans B0.out b1).alloc (below_trans B0.out b1).size (.cells #[.int .i64 (N:Nat),.slice A1 (2 * N) c1] 73))
  have O1:=zH (o1.alloc (.cells #[.int .i64 (N:Nat),.slice A1 (2 * N) c1] 73))
  clear o1 b1 X0 R0 B0 x0 x1
  obtain ⟨x0,x1,_⟩:=X1.out.two
  go_wp2_with fail
  refine (i_Synth N (2 * N) c1 A1 (runT N l (idT N)) _ hN (RdG.own O1.out) (ownsRow_cap O1.out) HT.out).mono ?_
  rintro e w2 ⟨A2,c2,rfl,o2,b2⟩
  rw [HE.out,HSLN.out] at o2 ⊢
  have X2:=zH ((X1.out.below b2).alloc (.cells #[.int .i64 (N:Nat),.slice A2 sl c2] 45))
  have R2:=zH ((R1.out.below b2).alloc (.cells #[.int .i64 (N:Nat),.slice A2 sl c2] 45))
  have B2:=zH ((below_trans B1.out b2).alloc (below_trans B1.out b2).size (.cells #[.int .i64 (N:Nat),.slice A2 sl c2] 45))
  have O2:=zH (ownsRow_base (base':=w.heap.size) (o2.alloc (.cells #[.int .i64 (N:Nat),.slice A2 sl c2] 45)) B1.out.size)
  have C2:=zH (Bx.new w2 45 #[.int .i64 (N:Nat),.slice A2 sl c2])
  have xx:=(X1.out.below b2).two
  clear o2 b2 X1 R1 B1 O1 x0 x1
  obtain ⟨x0,x1,_⟩:=xx
  go_wp2_with fail
  refine (i_ValC A2 sl c2 (N:Nat) (synL l N) _ (RdG.own O2.out) (by omega)).mono ?_
  rintro e w3 ⟨rfl,b3⟩
  rw [HSV.out]
  have R3:=zH (R2.out.below b3)
  have B3:=zH (below_trans B2.out b3)
  have O3:=zH (ownsRow_below O2.out b3)
  have C3:=zH (C2.out.below b3)
  clear b3 X2 R2 B2 O2 C2 x0 x1
  obtain ⟨r0,r1,r2,r3⟩:=R3.out.two
  obtain ⟨p0,p1,_⟩:=C3.out.two
  cases hd:decide (sl<=60)
  ·have HZ:=zH (show resy l N=none from by rw [HZ.out,hd];rfl)
   go_wp2_with fail
   rw [HZ.out]
   have RB:=R3.out
   with_reducible refine ret_S2 RB ?_ ?_ ⟨rfl,?_⟩
   ·intro wS z0 z1;simp [results,Tryz.results37,go_sem,z0,z1]
   ·rfl
   ·exact belowS2 B3.out (by omega) _ _
  ·have HZ:=zH (show resy l N=some (synL l N) from by rw [HZ.out,hd];rfl)
   go_wp2_with fail
   rw [HZ.out]
   have RB:=R3.out
   have h1:Bx (w3.setCell ⟨w.heap.size+1,0,none⟩ (.int .i64 (N:Nat))) (w.heap.size+1) 45 #[.int .i64 (N:Nat),.slice none 0 0]:=by simpa using RB.set_ 0 (.int .i64 (N:Nat))
   with_reducible refine ret_S2 (v:=.tuple #[.agg #[.int .i64 (N:Nat),.slice A2 sl c2],.bool true]) RB ?_ ?_ ⟨A2,c2,?_,?_,?_⟩
   ·intro wS z0 z1;simp [results,Tryz.results37,go_sem,z0,z1]
   ·rfl
   ·rw [HSLN.out]
   ·rw [HSLN.out];exact own_farT (own_farT O3.out RB (by decide) 0 _) h1 (by decide) 1 _
   ·exact belowS2 B3.out (by omega) _ _
end Go.Proofs.YtmenmibfkojnoaaGreat
