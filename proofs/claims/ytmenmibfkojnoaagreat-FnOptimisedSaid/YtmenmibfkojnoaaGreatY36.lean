/- Contract of qubit (impl). -/
import Derived.Test.YtmenmibfkojnoaaGreatY35
set_option maxHeartbeats 16000000
set_option maxRecDepth 100000
namespace Go.Proofs.YtmenmibfkojnoaaGreat
open Go.RowKit
set_option linter.unusedVariables false
theorem Ks {p:Prop} (h:p:=by
  skip;go_wp2_with fail;refine (oo R W n (q+n) k c0 c1 ((q:Int)+(n:Int)) _ A1 _ _ a _ HW HA zO zO hn.2 hx16 zO).mono ?_;rintro e wq ⟨rfl,rfl⟩;go_wp2_with fail;refine (oo R W n (q+n) k c0 c1 ((q:Int)+(n:Int)) _ A1 _ _ a _ HW HA zO zO hn.2 hx16 zO).mono ?_;rintro e wq ⟨rfl,rfl⟩;go_wp2_with fail;go_roundg (gk - 1)
  all_goals first
   |omega
   |exact ⟨k+1,_,zO,by go_num,zO,by have:=NX.out;rwa [show f3 n q k s=s by unfold f3;(try rw [EX.out]);(try rw [EZ.out]);(try rw [hx]);(try rw [hz]);rfl] at this,HS.mono zO⟩):p:=h
theorem Kt {p:Prop} (h:p:=by
  rintro e wq ⟨rfl,rfl⟩;go_wp2_with fail;refine (zi R W n (q) k c0 c1 (q:Int) _ A1 _ _ a _ HW HA zO zO hn.2 hz16 zO).mono ?_;rintro e wq ⟨rfl,rfl⟩;go_wp2_with fail;go_roundg (gk - 1)
  all_goals first
   |omega
   |exact ⟨k+1,_,zO,by go_num,zO,by have:=NX.out;rwa [show f1 n q k s=s by unfold f1;(try rw [EX.out]);(try rw [EZ.out]);(try rw [hx]);(try rw [hz]);rfl] at this,HS.mono zO⟩):p:=h
theorem tc {p:Prop} (h:p:=by
  go_wp2_with fail;go_meet;exact HE.out ▸ HS.mono zO):p:=h
theorem Ku {p:Prop} (h:p:=by
  go_wp2_with fail
  (first | go_ret | go_end0)
  exact ⟨rfl,by rw [HE3.out,HE8.out,<- HE.out];exact HS.mono zO⟩):p:=h
theorem wO {p:Prop} (h:p:=by
  go_wp2_with fail;go_meet;exact HS.out):p:=h
theorem Oo (R W n B0 q:Nat) (S0:df) (w0 w:World) (hn:1<=n/\n<=4) (hq:q < n) (h:SI R W 163 n B0 S0 w0 w) (hB:B0<=500) :
  Calls Tryz.prog 157 #[.pointer (some ⟨W,0,none⟩),q] w fun e w'=>e=.returned (.tuple #[])/\SI R W 163 n (B0+26) (fe n q (fm n q S0)) w0 w':=by
 obtain ⟨S1,eS1⟩:∃ S,cm (f1 n q) q (n - q) S0=S:=⟨_,rfl⟩;obtain ⟨F,eF⟩:∃ F,kZ S1.1 q q (n - 1 - q)=F:=⟨_,rfl⟩;have hF1:q<=F/\F<=n - 1:=by have:=qQ S1.1 q (n - 1 - q) q;omega
 obtain ⟨S2,eS2⟩:∃ S,Ma n q S1=S:=⟨_,rfl⟩;have HE2:=zH (show (if F=q then S1 else iK n S1 11 q F)=S2 by rw [<- eS2,<- eF];rfl);obtain ⟨S3,eS3⟩:∃ S,cm (f2 n q) (q+1) (n - (q+1)) S2=S:=⟨_,rfl⟩;have HE3:=zH (show fm n q S0=S3 by rw [<- eS3,<- eS2,<- eS1];rfl);have HF:=zH eF;clear eF;have HS1:=zH eS1;clear eS1;have HS3:=zH eS3;clear eS3;clear eS2;obtain ⟨S4,eS4⟩:∃ S,cm (f3 n q) (q+1) (n - (q+1)) S3=S:=⟨_,rfl⟩;obtain ⟨S5,eS5⟩:∃ S,cm (f4 n q) (q+1) (n - (q+1)) S4=S:=⟨_,rfl⟩;obtain ⟨S6,eS6⟩:∃ S,hH n q S5=S:=⟨_,rfl⟩;obtain ⟨S7,eS7⟩:∃ S,pZ n q S6=S:=⟨_,rfl⟩;obtain ⟨S8,eS8⟩:∃ S,pX n q S7=S:=⟨_,rfl⟩;have HE8:=zH (show fe n q S3=S8 by rw [<- eS8,<- eS7,<- eS6,<- eS5,<- eS4];rfl);have HS4:=zH eS4;clear eS4;have HS5:=zH eS5;clear eS5;have HS6:=zH eS6;clear eS6;have HS7:=zH eS7;clear eS7;have HS8:=zH eS8;clear eS8;have n1:(1:Int)<=(n:Int):=zO;have n4:(n:Int)<=4:=zO
 have q0:(0:Int)<=(q:Int):=zO;have qn:(q:Int) < (n:Int):=zO;have HS:=zH h;clear h;obtain ⟨A0,c0,A1,c1,hW⟩:=HS.out.2.2.1;obtain ⟨t0,t1,t2,_⟩:=hW.1.three;clear hW;go_enter Tryz.func157,Tryz.ntmps157;go_upto_block 0 with fail
 go_cut [6] from 17 to 43 (fun i wx=>SI R W 163 n (B0+1 * n) S1 w0 wx)
 case first =>
  go_wp2_with fail;go_loopg [6] (n - (q)) (fun m i wr=>∃ (k:Nat) (s:df),k+m=n/\i=.int .i64 k/\q<=k/\cm (f1 n q) k m s=S1/\SI R W 163 n (B0+1 * k) s w0 wr)
  case atStart=>exact ⟨q,_,zO,by go_num,zO,HS1.out,HS.mono zO⟩
  case round =>
   clear HS HS1;obtain ⟨k,s,hk,rfl,hqk,hfin,hS⟩:=hrel;have HS:=zH hS;clear hS;by_cases hlt:k < n
   ·have NX:=zH (eX hlt hk hfin);clear hfin;obtain ⟨a,ha,hoa,A0,c0,A1,c1,hW⟩:=HS.row (i:=q) zO;have HW:=zH hW;have HA:=zH ha;have hx16:=(bI hn.2 hoa).1;have hz16:=(bI hn.2 hoa).2.1;obtain ⟨b,off,rfl⟩:=hW.rd.first zO;obtain ⟨hbl,y0,y1,y2,y3⟩:=hW.rd.cellsAt (aE ha);simp only [pg] at y0 y1 y2 y3;obtain ⟨t0,t1,t2,_⟩:=hW.1.three;have HB:=HA;have hi1:(q:Int) < ((2 * n:Nat):Int):=zO;clear hW ha;have EX:=zH (kU (k:=k) HB);have EZ:=zH (qd (k:=k) HB);cases hx:aZ a.x k
    ·skip;cases hz:aZ a.z k
     ·skip;go_wp2_with fail;refine (oo R W n (q) k c0 c1 (q:Int) _ A1 _ _ a _ HW HA zO zO hn.2 hx16 zO).mono ?_;exact Kt
     ·skip;go_wp2_with fail;refine (oo R W n (q) k c0 c1 (q:Int) _ A1 _ _ a _ HW HA zO zO hn.2 hx16 zO).mono ?_;rintro e wq ⟨rfl,rfl⟩;go_wp2_with fail;refine (zi R W n (q) k c0 c1 (q:Int) _ A1 _ _ a _ HW HA zO zO hn.2 hz16 zO).mono ?_;rintro e wq ⟨rfl,rfl⟩;go_wp2_with fail;refine (gP R W n (B0+1 * k) _ 4 k 0 _ w0 _ hn HS.out rfl (aP hn zO (show (4:Int) ∈ oneKs by decide)).1 (aP (q:=k) hn zO (show (4:Int) ∈ oneKs by decide)).2 zO).mono ?_;rintro e wq ⟨rfl,hq0⟩;have HS:=zH hq0;clear hq0;go_wp2_with fail;go_roundg (gk - 1)
      all_goals first
       |omega
       |exact ⟨k+1,_,zO,by go_num,zO,by have:=NX.out;rwa [show f1 n q k s=iK n s 4 k 0 by unfold f1;(try rw [EX.out]);(try rw [EZ.out]);(try rw [hx]);(try rw [hz]);rfl] at this,HS.mono zO⟩
    ·skip;cases hz:aZ a.z k
     ·skip;go_wp2_with fail;refine (oo R W n (q) k c0 c1 (q:Int) _ A1 _ _ a _ HW HA zO zO hn.2 hx16 zO).mono ?_;rintro e wq ⟨rfl,rfl⟩;go_wp2_with fail;refine (zi R W n (q) k c0 c1 (q:Int) _ A1 _ _ a _ HW HA zO zO hn.2 hz16 zO).mono ?_;exact Kt
     ·skip;go_wp2_with fail;refine (oo R W n (q) k c0 c1 (q:Int) _ A1 _ _ a _ HW HA zO zO hn.2 hx16 zO).mono ?_;rintro e wq ⟨rfl,rfl⟩;go_wp2_with fail;refine (zi R W n (q) k c0 c1 (q:Int) _ A1 _ _ a _ HW HA zO zO hn.2 hz16 zO).mono ?_;rintro e wq ⟨rfl,rfl⟩;go_wp2_with fail;refine (gP R W n (B0+1 * k) _ 5 k 0 _ w0 _ hn HS.out rfl (aP hn zO (show (5:Int) ∈ oneKs by decide)).1 (aP (q:=k) hn zO (show (5:Int) ∈ oneKs by decide)).2 zO).mono ?_;rintro e wq ⟨rfl,hq0⟩;have HS:=zH hq0;clear hq0;go_wp2_with fail;go_roundg (gk - 1)
      all_goals first
       |omega
       |exact ⟨k+1,_,zO,by go_num,zO,by have:=NX.out;rwa [show f1 n q k s=iK n s 5 k 0 by unfold f1;(try rw [EX.out]);(try rw [EZ.out]);(try rw [hx]);(try rw [hz]);rfl] at this,HS.mono zO⟩
   ·obtain rfl:n=k:=zO;obtain rfl:gk=0:=zO;obtain rfl:s=S1:=hfin;exact wO
 case rest =>
  have HS:=zH hcut;clear hcut;obtain ⟨wn,rfl⟩:∃ wn,wn=wc:=⟨_,rfl⟩;go_upto_block 3 with fail
  go_cut [7] from 45 to 57 (fun i wx=>i=.int .i64 (F:Nat)/\SI R W 163 n (B0+1 * n) S1 w0 wx)
  case first =>
   go_wp2_with fail;go_loopg [7] (n+1 - q) (fun m i wr=>∃ (k:Nat),k+m=n+1/\i=.int .i64 k/\q<=k/\k<=n - 1/\kZ S1.1 q k (n - 1 - k)=F/\SI R W 163 n (B0+1 * n) S1 w0 wr)
   case atStart=>exact ⟨q,zO,rfl,zO,zO,HF.out,HS.out⟩
   case round =>
    clear HS HF;obtain ⟨k,hk,rfl,hqk,hkn,hfin,hS⟩:=hrel;have HS:=zH hS;clear hS;by_cases hlt:k < n - 1
    ·have HFK:=zH (uw zO hfin);clear hfin;have hltI:(k:Int) < (n:Int) - 1:=zO;have hltd:decide ((k:Int) < (n:Int) - 1)=true:=by simpa using hltI
     obtain ⟨a,ha,hoa,A0,c0,A1,c1,hW⟩:=HS.row (i:=q) zO;have HW:=zH hW;have HA:=zH ha;have hx16:=(bI hn.2 hoa).1;have hz16:=(bI hn.2 hoa).2.1;obtain ⟨b,off,rfl⟩:=hW.rd.first zO;obtain ⟨hbl,y0,y1,y2,y3⟩:=hW.rd.cellsAt (aE ha);simp only [pg] at y0 y1 y2 y3;obtain ⟨t0,t1,t2,_⟩:=hW.1.three;have HB:=HA;have hi1:(q:Int) < ((2 * n:Nat):Int):=zO;clear hW ha;have EX:=zH (kU (k:=k) HA);cases hx:aZ a.x k
     ·skip;have HK:=zH (show kZ S1.1 q (k+1) (n - 1 - (k+1))=F by have:=HFK.out;rwa [EX.out,hx,if_neg zD] at this);go_wp2_with fail;refine (oo R W n (q) k c0 c1 (q:Int) _ A1 _ _ a _ HW HA zO zO hn.2 hx16 zO).mono ?_;rintro e wq ⟨rfl,rfl⟩;go_wp2_with fail;go_roundg (gk - 1)
      all_goals first
       |omega
       |exact ⟨k+1,zO,by go_num,zO,zO,HK.out,HS.out⟩
     ·skip;have HK:=zH (show k=F by have:=HFK.out;rwa [EX.out,hx,if_pos rfl] at this);go_wp2_with fail;refine (oo R W n (q) k c0 c1 (q:Int) _ A1 _ _ a _ HW HA zO zO hn.2 hx16 zO).mono ?_;rintro e wq ⟨rfl,rfl⟩;go_wp2_with fail;go_meet;exact ⟨by rw [HK.out],HS.out⟩
    ·have HK:=zH (show k=F by rw [show n - 1 - k=0 by omega] at hfin;exact hfin);clear hfin;have hltI:¬ ((k:Int) < (n:Int) - 1):=zO;have hltd:decide ((k:Int) < (n:Int) - 1)=false:=by simpa using hltI
     go_wp2_with fail;go_meet;exact ⟨by rw [HK.out],HS.out⟩
  case rest =>
   obtain ⟨rfl,hS⟩:=hcut;have HS:=zH hS;clear hS;obtain ⟨wn,rfl⟩:∃ wn,wn=wc:=⟨_,rfl⟩;go_upto_if 60 with fail
   go_cut [61] from 60 to 64 (fun i wx=>SI R W 163 n (B0+1 * n+1) S2 w0 wx)
   case first =>
    by_cases hF:F=q
    ·subst hF;have HE:=zH (show S1=S2 by have:=HE2.out;rwa [if_pos rfl] at this);exact tc
    ·have HE:=zH (show iK n S1 11 q F=S2 by have:=HE2.out;rwa [if_neg hF] at this);have hFI:¬ ((F:Int)=(q:Int)):=zO;have hFd:((F:Int) != (q:Int))=true:=by simpa using hFI
     go_wp2_with fail;refine (gP R W n (B0+1 * n) _ 11 q F _ w0 _ hn HS.out rfl (iC hn (show q < n by omega) (show F < n by omega) zO).2 zD zO).mono ?_;rintro e wq ⟨rfl,hq0⟩;have HS:=zH hq0;clear hq0;go_wp2_with fail;go_meet;exact HE.out ▸ HS.out
   case rest =>
    have HS:=zH hcut;clear hcut;obtain ⟨wn,rfl⟩:∃ wn,wn=wc:=⟨_,rfl⟩;go_upto_block 5 with fail
    go_cut [7] from 67 to 79 (fun i wx=>SI R W 163 n (B0+1 * n+1+1 * n) S3 w0 wx)
    case first =>
     go_wp2_with fail;go_loopg [7] (n - (q+1)) (fun m i wr=>∃ (k:Nat) (s:df),k+m=n/\i=.int .i64 k/\q+1<=k/\cm (f2 n q) k m s=S3/\SI R W 163 n (B0+1 * n+1+1 * k) s w0 wr)
     case atStart=>exact ⟨q+1,_,zO,by go_num,zO,HS3.out,HS.mono zO⟩
     case round =>
      clear HS HS3;obtain ⟨k,s,hk,rfl,hqk,hfin,hS⟩:=hrel;have HS:=zH hS;clear hS;by_cases hlt:k < n
      ·have NX:=zH (eX hlt hk hfin);clear hfin;obtain ⟨a,ha,hoa,A0,c0,A1,c1,hW⟩:=HS.row (i:=q) zO;have HW:=zH hW;have HA:=zH ha;have hx16:=(bI hn.2 hoa).1;have hz16:=(bI hn.2 hoa).2.1;obtain ⟨b,off,rfl⟩:=hW.rd.first zO;obtain ⟨hbl,y0,y1,y2,y3⟩:=hW.rd.cellsAt (aE ha);simp only [pg] at y0 y1 y2 y3;obtain ⟨t0,t1,t2,_⟩:=hW.1.three;have HB:=HA;have hi1:(q:Int) < ((2 * n:Nat):Int):=zO;clear hW ha;have EX:=zH (kU (k:=k) HB);have EZ:=zH (qd (k:=k) HB);cases hx:aZ a.x k
       ·skip;go_wp2_with fail;refine (oo R W n (q) k c0 c1 (q:Int) _ A1 _ _ a _ HW HA zO zO hn.2 hx16 zO).mono ?_;rintro e wq ⟨rfl,rfl⟩;go_wp2_with fail;go_roundg (gk - 1)
        all_goals first
         |omega
         |exact ⟨k+1,_,zO,by go_num,zO,by have:=NX.out;rwa [show f2 n q k s=s by unfold f2;(try rw [EX.out]);(try rw [EZ.out]);(try rw [hx]);(try rw [hz]);rfl] at this,HS.mono zO⟩
       ·skip;go_wp2_with fail;refine (oo R W n (q) k c0 c1 (q:Int) _ A1 _ _ a _ HW HA zO zO hn.2 hx16 zO).mono ?_;rintro e wq ⟨rfl,rfl⟩;go_wp2_with fail;refine (gP R W n (B0+1 * n+1+1 * k) _ 9 q k _ w0 _ hn HS.out rfl (iC hn (show q < n by omega) (show k < n by omega) zO).1 zD zO).mono ?_;rintro e wq ⟨rfl,hq0⟩;have HS:=zH hq0;clear hq0;go_wp2_with fail;go_roundg (gk - 1)
        all_goals first
         |omega
         |exact ⟨k+1,_,zO,by go_num,zO,by have:=NX.out;rwa [show f2 n q k s=iK n s 9 q k by unfold f2;(try rw [EX.out]);(try rw [EZ.out]);(try rw [hx]);(try rw [hz]);rfl] at this,HS.mono zO⟩
      ·obtain rfl:n=k:=zO;obtain rfl:gk=0:=zO;obtain rfl:s=S3:=hfin;exact wO
    case rest =>
     have HS:=zH hcut;clear hcut;obtain ⟨wn,rfl⟩:∃ wn,wn=wc:=⟨_,rfl⟩;go_upto_block 7 with fail
     go_cut [7] from 82 to 111 (fun i wx=>SI R W 163 n (B0+1 * n+1+1 * n+2 * n) S4 w0 wx)
     case first =>
      go_wp2_with fail;go_loopg [7] (n - (q+1)) (fun m i wr=>∃ (k:Nat) (s:df),k+m=n/\i=.int .i64 k/\q+1<=k/\cm (f3 n q) k m s=S4/\SI R W 163 n (B0+1 * n+1+1 * n+2 * k) s w0 wr)
      case atStart=>exact ⟨q+1,_,zO,by go_num,zO,HS4.out,HS.mono zO⟩
      case round =>
       clear HS HS4;obtain ⟨k,s,hk,rfl,hqk,hfin,hS⟩:=hrel;have HS:=zH hS;clear hS;by_cases hlt:k < n
       ·have NX:=zH (eX hlt hk hfin);clear hfin;obtain ⟨a,ha,hoa,A0,c0,A1,c1,hW⟩:=HS.row (i:=q+n) zO;have HW:=zH hW;have HA:=zH ha;have hx16:=(bI hn.2 hoa).1;have hz16:=(bI hn.2 hoa).2.1;obtain ⟨b,off,rfl⟩:=hW.rd.first zO;obtain ⟨hbl,y0,y1,y2,y3⟩:=hW.rd.cellsAt (aE ha);simp only [pg] at y0 y1 y2 y3;obtain ⟨t0,t1,t2,_⟩:=hW.1.three;have HB:=HA;have hi1:(n:Int)+(q:Int) < ((2 * n:Nat):Int):=zO;have hi2:(q:Int)+(n:Int) < ((2 * n:Nat):Int):=zO;clear hW ha;have EX:=zH (kU (k:=k) HB);have EZ:=zH (qd (k:=k) HB);cases hx:aZ a.x k
        ·skip;cases hz:aZ a.z k
         ·exact Ks
         ·exact Ks
        ·skip;cases hz:aZ a.z k
         ·skip;go_wp2_with fail;refine (oo R W n (q+n) k c0 c1 ((q:Int)+(n:Int)) _ A1 _ _ a _ HW HA zO zO hn.2 hx16 zO).mono ?_;rintro e wq ⟨rfl,rfl⟩;go_wp2_with fail;refine (zi R W n (q+n) k c0 c1 ((q:Int)+(n:Int)) _ A1 _ _ a _ HW HA zO zO hn.2 hz16 zO).mono ?_;rintro e wq ⟨rfl,rfl⟩;go_wp2_with fail;refine (oo R W n (q+n) k c0 c1 ((q:Int)+(n:Int)) _ A1 _ _ a _ HW HA zO zO hn.2 hx16 zO).mono ?_;rintro e wq ⟨rfl,rfl⟩;go_wp2_with fail;refine (gP R W n (B0+1 * n+1+1 * n+2 * k) _ 4 k 0 _ w0 _ hn HS.out rfl (aP hn zO (show (4:Int) ∈ oneKs by decide)).1 (aP (q:=k) hn zO (show (4:Int) ∈ oneKs by decide)).2 zO).mono ?_;rintro e wq ⟨rfl,hq0⟩;have HS:=zH hq0;clear hq0;go_wp2_with fail;go_roundg (gk - 1)
          all_goals first
           |omega
           |exact ⟨k+1,_,zO,by go_num,zO,by have:=NX.out;rwa [show f3 n q k s=iK n s 4 k 0 by unfold f3;(try rw [EX.out]);(try rw [EZ.out]);(try rw [hx]);(try rw [hz]);rfl] at this,HS.mono zO⟩
         ·skip;go_wp2_with fail;refine (oo R W n (q+n) k c0 c1 ((q:Int)+(n:Int)) _ A1 _ _ a _ HW HA zO zO hn.2 hx16 zO).mono ?_;rintro e wq ⟨rfl,rfl⟩;go_wp2_with fail;refine (zi R W n (q+n) k c0 c1 ((q:Int)+(n:Int)) _ A1 _ _ a _ HW HA zO zO hn.2 hz16 zO).mono ?_;rintro e wq ⟨rfl,rfl⟩;go_wp2_with fail;refine (gP R W n (B0+1 * n+1+1 * n+2 * k) _ 5 k 0 _ w0 _ hn HS.out rfl (aP hn zO (show (5:Int) ∈ oneKs by decide)).1 (aP (q:=k) hn zO (show (5:Int) ∈ oneKs by decide)).2 zO).mono ?_;rintro e wq ⟨rfl,hq0⟩;have HS:=zH hq0;clear hq0;go_wp2_with fail;refine (gP R W n (B0+1 * n+1+1 * n+2 * k+1) _ 4 k 0 _ w0 _ hn HS.out rfl (aP hn zO (show (4:Int) ∈ oneKs by decide)).1 (aP (q:=k) hn zO (show (4:Int) ∈ oneKs by decide)).2 zO).mono ?_;rintro e wq ⟨rfl,hq0⟩;have HS:=zH hq0;clear hq0;go_wp2_with fail;go_roundg (gk - 1)
          all_goals first
           |omega
           |exact ⟨k+1,_,zO,by go_num,zO,by have:=NX.out;rwa [show f3 n q k s=iK n (iK n s 5 k 0) 4 k 0 by unfold f3;(try rw [EX.out]);(try rw [EZ.out]);(try rw [hx]);(try rw [hz]);rfl] at this,HS.mono zO⟩
       ·obtain rfl:n=k:=zO;obtain rfl:gk=0:=zO;obtain rfl:s=S4:=hfin;exact wO
     case rest =>
      have HS:=zH hcut;clear hcut;obtain ⟨wn,rfl⟩:∃ wn,wn=wc:=⟨_,rfl⟩;go_upto_block 10 with fail
      go_cut [7] from 114 to 126 (fun i wx=>SI R W 163 n (B0+1 * n+1+1 * n+2 * n+1 * n) S5 w0 wx)
      case first =>
       go_wp2_with fail;go_loopg [7] (n - (q+1)) (fun m i wr=>∃ (k:Nat) (s:df),k+m=n/\i=.int .i64 k/\q+1<=k/\cm (f4 n q) k m s=S5/\SI R W 163 n (B0+1 * n+1+1 * n+2 * n+1 * k) s w0 wr)
       case atStart=>exact ⟨q+1,_,zO,by go_num,zO,HS5.out,HS.mono zO⟩
       case round =>
        clear HS HS5;obtain ⟨k,s,hk,rfl,hqk,hfin,hS⟩:=hrel;have HS:=zH hS;clear hS;by_cases hlt:k < n
        ·have NX:=zH (eX hlt hk hfin);clear hfin;obtain ⟨a,ha,hoa,A0,c0,A1,c1,hW⟩:=HS.row (i:=q+n) zO;have HW:=zH hW;have HA:=zH ha;have hx16:=(bI hn.2 hoa).1;have hz16:=(bI hn.2 hoa).2.1;obtain ⟨b,off,rfl⟩:=hW.rd.first zO;obtain ⟨hbl,y0,y1,y2,y3⟩:=hW.rd.cellsAt (aE ha);simp only [pg] at y0 y1 y2 y3;obtain ⟨t0,t1,t2,_⟩:=hW.1.three;have HB:=HA;have hi1:(n:Int)+(q:Int) < ((2 * n:Nat):Int):=zO;have hi2:(q:Int)+(n:Int) < ((2 * n:Nat):Int):=zO;clear hW ha;have EX:=zH (kU (k:=k) HB);have EZ:=zH (qd (k:=k) HB);cases hz:aZ a.z k
         ·skip;go_wp2_with fail;refine (zi R W n (q+n) k c0 c1 ((q:Int)+(n:Int)) _ A1 _ _ a _ HW HA zO zO hn.2 hz16 zO).mono ?_;rintro e wq ⟨rfl,rfl⟩;go_wp2_with fail;go_roundg (gk - 1)
          all_goals first
           |omega
           |exact ⟨k+1,_,zO,by go_num,zO,by have:=NX.out;rwa [show f4 n q k s=s by unfold f4;(try rw [EX.out]);(try rw [EZ.out]);(try rw [hx]);(try rw [hz]);rfl] at this,HS.mono zO⟩
         ·skip;go_wp2_with fail;refine (zi R W n (q+n) k c0 c1 ((q:Int)+(n:Int)) _ A1 _ _ a _ HW HA zO zO hn.2 hz16 zO).mono ?_;rintro e wq ⟨rfl,rfl⟩;go_wp2_with fail;refine (gP R W n (B0+1 * n+1+1 * n+2 * n+1 * k) _ 9 k q _ w0 _ hn HS.out rfl (iC hn (show k < n by omega) (show q < n by omega) zO).1 zD zO).mono ?_;rintro e wq ⟨rfl,hq0⟩;have HS:=zH hq0;clear hq0;go_wp2_with fail;go_roundg (gk - 1)
          all_goals first
           |omega
           |exact ⟨k+1,_,zO,by go_num,zO,by have:=NX.out;rwa [show f4 n q k s=iK n s 9 k q by unfold f4;(try rw [EX.out]);(try rw [EZ.out]);(try rw [hx]);(try rw [hz]);rfl] at this,HS.mono zO⟩
        ·obtain rfl:n=k:=zO;obtain rfl:gk=0:=zO;obtain rfl:s=S5:=hfin;exact wO
      case rest =>
       have HS:=zH hcut;clear hcut;obtain ⟨wn,rfl⟩:∃ wn,wn=wc:=⟨_,rfl⟩;obtain ⟨a,ha,hoa,A0,c0,A1,c1,hW⟩:=HS.row (i:=q+n) zO;have HW:=zH hW;have HA:=zH ha;have hx16:=(bI hn.2 hoa).1;have hz16:=(bI hn.2 hoa).2.1;obtain ⟨b,off,rfl⟩:=hW.rd.first zO;obtain ⟨hbl,y0,y1,y2,y3⟩:=hW.rd.cellsAt (aE ha);simp only [pg] at y0 y1 y2 y3;obtain ⟨t0,t1,t2,_⟩:=hW.1.three;have HB:=HA;have hi1:(n:Int)+(q:Int) < ((2 * n:Nat):Int):=zO;have hi2:(q:Int)+(n:Int) < ((2 * n:Nat):Int):=zO;clear hW ha;have EX:=zH (kU (k:=q) HB);go_wp2_with fail;refine (oo R W n (q+n) q c0 c1 ((q:Int)+(n:Int)) _ A1 _ _ a _ HW HA zO zO hn.2 hx16 zO).mono ?_;rintro e wq ⟨rfl,rfl⟩;go_upto_if 130 with fail
       go_cut [131] from 130 to 139 (fun i wx=>SI R W 163 n (B0+1 * n+1+1 * n+2 * n+1 * n+3) S6 w0 wx)
       case first =>
        cases hx:aZ a.x q
        ·skip;have HE:=zH (show S5=S6 by have:=HS6.out;unfold hH at this;rwa [EX.out,if_neg (by first | (rw [hx];decide) | assumption)] at this);exact tc
        ·skip;have HE:=zH (show iK n (iK n (iK n S5 4 q 0) 5 q 0) 4 q 0=S6 by have:=HS6.out;unfold hH at this;rwa [EX.out,if_pos (by first | exact hx | decide | assumption)] at this);go_wp2_with fail;refine (gP R W n (B0+1 * n+1+1 * n+2 * n+1 * n) _ 4 q 0 _ w0 _ hn HS.out rfl (aP hn zO (show (4:Int) ∈ oneKs by decide)).1 (aP (q:=q) hn zO (show (4:Int) ∈ oneKs by decide)).2 zO).mono ?_;rintro e wq ⟨rfl,hq0⟩;have HS:=zH hq0;clear hq0;go_wp2_with fail;refine (gP R W n (B0+1 * n+1+1 * n+2 * n+1 * n+1) _ 5 q 0 _ w0 _ hn HS.out rfl (aP hn zO (show (5:Int) ∈ oneKs by decide)).1 (aP (q:=q) hn zO (show (5:Int) ∈ oneKs by decide)).2 zO).mono ?_;rintro e wq ⟨rfl,hq0⟩;have HS:=zH hq0;clear hq0;go_wp2_with fail
         refine (gP R W n (B0+1 * n+1+1 * n+2 * n+1 * n+1+1) _ 4 q 0 _ w0 _ hn HS.out rfl (aP hn zO (show (4:Int) ∈ oneKs by decide)).1 (aP (q:=q) hn zO (show (4:Int) ∈ oneKs by decide)).2 zO).mono ?_;rintro e wq ⟨rfl,hq0⟩;have HS:=zH hq0;clear hq0;exact tc
       case rest =>
        have HS:=zH hcut;clear hcut;obtain ⟨wn,rfl⟩:∃ wn,wn=wc:=⟨_,rfl⟩;clear HW HA HB EX hx16 hz16 hoa
        try clear hi1 hi2
        try clear hi1
        obtain ⟨a,ha,hoa,A0,c0,A1,c1,hW⟩:=HS.row (i:=q) zO;have HW:=zH hW;have HA:=zH ha;have hx16:=(bI hn.2 hoa).1;have hz16:=(bI hn.2 hoa).2.1;obtain ⟨b,off,rfl⟩:=hW.rd.first zO;obtain ⟨hbl,y0,y1,y2,y3⟩:=hW.rd.cellsAt (aE ha);simp only [pg] at y0 y1 y2 y3;obtain ⟨t0,t1,t2,_⟩:=hW.1.three;have HB:=HA;have hi1:(q:Int) < ((2 * n:Nat):Int):=zO;clear hW ha;have EX:=zH (qW HB);go_upto_if 149 with fail
        go_cut [150] from 148 to 152 (fun i wx=>SI R W 163 n (B0+1 * n+1+1 * n+2 * n+1 * n+3+1) S7 w0 wx)
        case first =>
         by_cases hx:a.p=2
         ·have hpb:(((a.p:Nat):Int) == 2)=true:=zJ;have HE:=zH (show iK n S6 3 q 0=S7 by have:=HS7.out;unfold pZ at this;rwa [EX.out,if_pos (by first | exact hx | decide | assumption)] at this);go_wp2_with fail;refine (gP R W n (B0+1 * n+1+1 * n+2 * n+1 * n+3) _ 3 q 0 _ w0 _ hn HS.out rfl (aP hn zO (show (3:Int) ∈ oneKs by decide)).1 (aP (q:=q) hn zO (show (3:Int) ∈ oneKs by decide)).2 zO).mono ?_;rintro e wq ⟨rfl,hq0⟩;have HS:=zH hq0;clear hq0;exact tc
         ·have hpb:(((a.p:Nat):Int) == 2)=false:=zJ;have HE:=zH (show S6=S7 by have:=HS7.out;unfold pZ at this;rwa [EX.out,if_neg (by first | (rw [hx];decide) | assumption)] at this);exact tc
        case rest =>
         have HS:=zH hcut;clear hcut;obtain ⟨wn,rfl⟩:∃ wn,wn=wc:=⟨_,rfl⟩;clear HW HA HB EX hx16 hz16 hoa
         try clear hi1 hi2
         try clear hi1
         obtain ⟨a,ha,hoa,A0,c0,A1,c1,hW⟩:=HS.row (i:=q+n) zO;have HW:=zH hW;have HA:=zH ha;have hx16:=(bI hn.2 hoa).1;have hz16:=(bI hn.2 hoa).2.1;obtain ⟨b,off,rfl⟩:=hW.rd.first zO;obtain ⟨hbl,y0,y1,y2,y3⟩:=hW.rd.cellsAt (aE ha);simp only [pg] at y0 y1 y2 y3;obtain ⟨t0,t1,t2,_⟩:=hW.1.three;have HB:=HA;have hi1:(n:Int)+(q:Int) < ((2 * n:Nat):Int):=zO;have hi2:(q:Int)+(n:Int) < ((2 * n:Nat):Int):=zO;clear hW ha;have EX:=zH (qW HB);by_cases hx:a.p=2
         ·have hpb:(((a.p:Nat):Int) == 2)=true:=zJ;have HE:=zH (show iK n S7 1 q 0=S8 by have:=HS8.out;unfold pX at this;rwa [EX.out,if_pos hx] at this);go_wp2_with fail;refine (gP R W n (B0+1 * n+1+1 * n+2 * n+1 * n+3+1) _ 1 q 0 _ w0 _ hn HS.out rfl (aP hn zO (show (1:Int) ∈ oneKs by decide)).1 (aP (q:=q) hn zO (show (1:Int) ∈ oneKs by decide)).2 zO).mono ?_;rintro e wq ⟨rfl,hq0⟩;have HS:=zH hq0;clear hq0;exact Ku
         ·have hpb:(((a.p:Nat):Int) == 2)=false:=zJ;have HE:=zH (show S7=S8 by have:=HS8.out;unfold pX at this;rwa [EX.out,if_neg hx] at this);exact Ku
theorem Oq {w':World} {g t:Nat} {a b:Value} (h:Bx w' g t #[a,b]):w'.cell? ⟨g,0,none⟩=some a/\w'.cell? ⟨g,1,none⟩=some b/\True:=⟨h.cell 0,h.cell 1,trivial⟩
theorem Ta {w':World} {base g1:Nat} {e:TypeId} {sz n:Nat} {v:Value} {xs:List Value} {a b:Value} (h:w'.ownsRow base e sz v n xs) (hg:g1 < base):(S2 w' g1 a b).ownsRow base e sz v n xs:=fY (fY h (p:=⟨g1,0,none⟩) hg a) (p:=⟨g1,1,none⟩) hg b
theorem zq (n m c:Nat) (A:Option Addr) (r:List Pq) (w:World) (hr:RdG w A m (dP n r)) (hm:m<=8) :
  Calls Tryz.prog 151 #[.agg #[n,.slice A m c]] w (qL n m r w):=by
 have HT:=zH hr;have hz4:(Value.agg #[(0:Int),(0:Int),(0:Int),(0:Int)]).cells.size=4:=rfl;have X0:=zH (show Bx ((w.alloc (.cells #[n,.slice A m c] 73)).alloc ZO.zT) w.heap.size 73 _ from (Bx.new w _ _).alloc _);have X1:=zH (show Bx ((w.alloc (.cells #[n,.slice A m c] 73)).alloc ZO.zT) (w.heap.size+1) 73 _ from Bx.new' zI);have RT:=zH ((HT.out.2.alloc (.cells #[n,.slice A m c] 73)).alloc ZO.zT);have BZ:Hid (Below w w ((w.alloc (.cells #[n,.slice A m c] 73)).alloc ZO.zT)):=zH (((zW).alloc zR _).alloc zI _);clear hr;go_enter Tryz.func151,Tryz.ntmps151;go_wp2_with fail;generalize (w.alloc (.cells #[n,.slice A m c] 73)).alloc ZO.zT=wz at X0 X1 RT BZ ⊢;generalize hg1:w.heap.size+1=g1 at X1 ⊢;generalize hg0:w.heap.size=g0 at X0 hg1 ⊢;have hne:g0 ≠ g1:=zO;have hg1w:g1 < wz.heap.size:=X1.lt;have hbw:w.heap.size<=wz.heap.size:=BZ.size;have hgg:w.heap.size<=g1:=zO
 go_region_held3 (fun w'=>w'.cell? ⟨g0,0,none⟩=some (.int .i64 (n:Nat))/\w'.cell? ⟨g0,1,none⟩=some (.slice A m c)/\True)
  (first
   |with_reducible exact Oq X0.out.drew
   |with_reducible exact Oq (X0.out.alloc _).drew
   |with_reducible exact Oq ((X0.out.below z3).alloc _)
   |with_reducible exact Oq (X0.out.below z3)
   |with_reducible exact Oq ((X0.out.below z3).far2 hne _ _))
  (first
   |(refine eT zF (.tmp 5) (.tmp 7) 71 zF Tryz.underlying71 fc hz4 (base:=wz.heap.size) (news:=af (dP n r)) rfl ?_ ?_ rfl ?_ zO zD ?_;(first | with_reducible exact kA zI | with_reducible exact Bx.new' zI | with_reducible exact mH (Bx.new' zI));(first | exact zR | exact Nat.le_succ _);(first | with_reducible exact Rd.drew (RT.out.alloc _) | with_reducible exact RT.out.alloc _ | with_reducible exact (Rd.drew RT.out).alloc _);intro A3 c3 w3 o3 b3;(first | (with_reducible have z3:=aa (eH (Below.refl _ wz)) b3) | (with_reducible have z3:=aa (ce (Below.refl _ wz)) b3));have ⟨q0,q1,f0,f1⟩:=(X1.out.below z3).two)
   |fail)
 all_goals
  go_wp2_with fail;refine bodyPost_ret (v:=.agg #[n,.slice A3 m c3]) (by simp [results,Tryz.results151,go_sem,q0,q1]) rfl ⟨A3,c3,rfl,?_,?_⟩
  ·exact ae (Ta o3 hg1w) hbw
  ·exact ay (aa BZ.out z3) hgg _ _
abbrev RetGT (l:List Gt) (w:World) (e:Ending) (w':World):Prop :=
 ∃ A c,e=.returned (.tuple #[.slice A l.length c,.bool true])/\w'.ownsRow w 39 4 (.slice A l.length c) l.length (af l)/\Below w w w'
theorem Vo {n:Nat} {r:List Pq} (h:ed n r):kD n (r,[]):=⟨h,fun g hg=>by cases hg⟩
theorem uL {n q m:Nat} {s S:df} (hm:0 < m) (h:nj n q m s=S):nj n (q+1) (m - 1) (fe n q (fm n q s))=S:=by
 obtain ⟨j,rfl⟩:∃ j,m=j+1:=⟨m - 1,zO⟩;exact h
theorem Kv (n m c:Nat) (A:Option Addr) (r:List Pq) (w:World) (hn:1<=n/\n<=4) (hr:RdG w A m (dP n r)) (hmc:m<=c) (hok:ed n r) :
  Calls Tryz.prog 112 #[.agg #[n,.slice A m c]] w (RetGT (lc n r) w):=by
 have hm:m=2 * n:=by rw [<- hr.1,ep,hok.1]
 have HW:=zH hr;have HR:=zH hok;have X0:=zH (Bx.new w 73 #[n,.slice A m c]);have B0:=zH (show Below w w (w.alloc (.cells #[n,.slice A m c] 73)) from (zW).alloc zR _);have hz4:(Value.agg #[(0:Int),(0:Int),(0:Int),(0:Int)]).cells.size=4:=rfl;obtain ⟨SF,eSF⟩:∃ S,nj n 0 n (r,[])=S:=⟨_,rfl⟩;have HSF:=zH eSF;have HL2:=zH (show lc n r=SF.2 by rw [<- eSF];rfl);have HM:=zH hm;have hm8:m<=8:=zO;clear hr hok eSF hm;obtain ⟨x0,x1,_⟩:=X0.two;go_enter Tryz.func112,Tryz.ntmps112;go_wp2_with fail;refine (my n m c A r _ hn (HW.below B0) HR).mono ?_;rintro e w1 ⟨rfl,b1⟩;have X1:=zH (X0.below b1);have B1:=zH (aa B0 b1);clear b1 x0 x1 X0 B0;obtain ⟨x0,x1,_⟩:=X1.two;go_wp2_with fail;refine (zq n m c A r _ (HW.below B1) hm8).mono ?_;rintro e w2 ⟨A3,c3,rfl,o3,b3⟩;have lw1:=B1.size;have X2:=zH ((X1.below b3).alloc (.cells #[n,.slice A3 m c3,.slice none 0 0] 159))
 have S2':=zH (show SI w1.heap.size w2.heap.size 159 n (26 * 0) (r,[]) w1 (w2.alloc (.cells #[n,.slice A3 m c3,.slice none 0 0] 159)) from ⟨Vo HR.out,zR,⟨A3,c3,none,0,by rw [<- HM.out];exact Bx.new _ _ _,by rw [<- HM.out];exact o3.alloc _,World.ownsRow_nil _ _ _ _,b3.size⟩,b3.alloc b3.size _⟩);clear o3 x0 x1;obtain ⟨W,hW⟩:∃ W,w2.heap.size=W:=⟨_,rfl⟩;obtain ⟨R,hR⟩:∃ R,w1.heap.size=R:=⟨_,rfl⟩;rw [hW,hR] at S2';rw [hR] at lw1;have hX1:=X1.lt;rw [hR] at hX1;have HBX:=zH (fun (wx:World) (h:Below R w1 wx)=>X1.below (hR ▸ h));have HB1:=zH (fun (wx:World) (h:Below R w1 wx)=>aa B1.out (hR ▸ h));go_wp2_with fail;clear hW hR b3 X1 X2 B1;go_loopg [5] n (fun g i wr=>∃ (q:Nat) (s:df),q+g=n/\i=.int .i64 q/\nj n q g s=SF/\SI R W 159 n (26 * q) s w1 wr)
 case atStart=>exact ⟨0,_,zO,rfl,HSF.out,S2'.out⟩
 case round =>
  clear S2' HSF;obtain ⟨q,s,hq,rfl,hfin,hS⟩:=hrel;have HS:=zH hS;clear hS;obtain ⟨x0,x1,_⟩:=(HBX.out _ HS.out.2.2.2).two;by_cases hlt:q < n
  ·have NX:=zH (uL zO hfin);clear hfin;go_wp2_with fail;refine (On R W n (26 * q) q s w1 _ hn hlt HS zO).mono ?_;rintro e w5 ⟨rfl,h5⟩;have HS5:=zH h5;clear h5;go_wp2_with fail;refine (Kk R W n (26 * q+9) q _ w1 _ hn hlt HS5 zO).mono ?_;rintro e w6 ⟨rfl,h6⟩;have HS6:=zH h6;clear h6;go_wp2_with fail;go_roundg (gk - 1)
   all_goals first
    |omega
    |exact ⟨q+1,_,zO,by go_num,NX.out,HS6.mono zO⟩
  ·obtain rfl:n=q:=zO;obtain rfl:gk=0:=zO;obtain rfl:s=SF:=hfin;obtain ⟨A0,c0,A1,c1,hW⟩:=HS.out.2.2.1;obtain ⟨t0,t1,t2,_⟩:=hW.1.three;have GO:=zH hW.2.2.1;have hl:=HS.out.2.1;have lR:R<=wr.heap.size:=HS.le;have bR:=zH (HB1 _ HS.out.2.2.2);clear hW;have T2:=(show (wr.alloc (.cells #[] 39)).cell? ⟨W,2,none⟩=some (.slice A1 s.2.length c1) from t2 ▸ (((Below.refl wr wr).alloc zR (.cells #[] 39)).cell (p:=⟨W,2,none⟩) (by obtain ⟨_,_,_,_,hW⟩:=HS.out.2.2.1;exact hW.1.lt)))
   go_wp2_with (at_builtin;refine dN rfl (.tmp 26) (.tmp 30) 24 rfl Tryz.underlying24 ak hz4 (base:=wr.heap.size) rfl (Bx.new' zI) zR rfl ((Rd.own GO.out).alloc _) zO zD ?_;intro A4 c4 w4 o4 b4)
   go_ret2;rw [HL2.out];exact ⟨A4,c4,rfl,ae o4 bR.size,aa (bR.alloc bR.size _) b4⟩
theorem Kw (n m c:Nat) (A:Option Addr) (r:List Pq) (w:World) (hn:1<=n/\n<=4) (hr:RdG w A m (dP n r)) (hmc:m<=c) (hok:ed n r) :
  Calls Tryz.prog 116 #[.agg #[n,.slice A m c]] w (RetGT (lc n r) w):=by
 have hm:m=2 * n:=by rw [<- hr.1,ep,hok.1]
 have HW:=zH hr;have HR:=zH hok;have X0:=zH (Bx.new w 73 #[n,.slice A m c]);have B0:=zH (show Below w w (w.alloc (.cells #[n,.slice A m c] 73)) from (zW).alloc zR _);have hz4:(Value.agg #[(0:Int),(0:Int),(0:Int),(0:Int)]).cells.size=4:=rfl;obtain ⟨SF,eSF⟩:∃ S,nj n 0 n (r,[])=S:=⟨_,rfl⟩;have HSF:=zH eSF;have HL2:=zH (show lc n r=SF.2 by rw [<- eSF];rfl);have HM:=zH hm;have hm8:m<=8:=zO;clear hr hok eSF hm;obtain ⟨x0,x1,_⟩:=X0.two;go_enter Tryz.func116,Tryz.ntmps116;go_wp2_with fail;refine (nU n m c A r _ hn (HW.below B0) hmc HR).mono ?_;rintro e w1 ⟨rfl,b1⟩;have X1:=zH (X0.below b1);have B1:=zH (aa B0 b1);have RT:=zH (HW.below B1.out).2;clear b1 x0 x1 X0 B0;obtain ⟨g0,hg0⟩:∃ x,w.heap.size=x:=⟨_,rfl⟩;rw [hg0] at X1;go_upto_region 3 with fail
 clear hg0
 go_cut [4] (fun v4 wx=>∃ W A3 c3,v4=.pointer (some ⟨W,0,none⟩)/\Bx wx W 163 #[n,.slice A3 m c3,.slice none 0 0]/\wx.ownsRow w1 151 4 (.slice A3 m c3) m (af (dP n r))/\Below w1 w1 wx/\w1.heap.size<=W)
 case first =>
  go_region_held3 (fun w'=>w'.cell? ⟨g0,0,none⟩=some (.int .i64 (n:Nat))/\w'.cell? ⟨g0,1,none⟩=some (.slice A m c)/\True)
   (first
    |with_reducible exact Oq X1.out.drew
    |with_reducible exact Oq (X1.out.alloc _).drew
    |with_reducible exact Oq ((X1.out.below z3).alloc _)
    |with_reducible exact Oq (X1.out.below z3))
   (first
    |(refine eT zF (.tmp 11) (.tmp 13) 71 zF Tryz.underlying71 fc hz4 (base:=w1.heap.size) (news:=af (dP n r)) rfl ?_ ?_ rfl ?_ zO zD ?_;(first | with_reducible exact kA zI | with_reducible exact Bx.new' zI | with_reducible exact mH (Bx.new' zI));(first | exact zR | exact Nat.le_succ _);(first | with_reducible exact Rd.drew (RT.out.alloc _) | with_reducible exact RT.out.alloc _ | with_reducible exact (Rd.drew RT.out).alloc _);intro A3 c3 w3 o3 b3;(first | (with_reducible have z3:=aa (eH (Below.refl _ w1)) b3) | (with_reducible have z3:=aa (ce (Below.refl _ w1)) b3)))
    |fail)
  all_goals go_wp2_with fail
  all_goals go_meet
  all_goals exact ⟨_,A3,c3,rfl,Bx.new _ _ _,o3.alloc _,z3.alloc z3.size _,z3.size⟩
 case rest =>
  obtain ⟨W,A3,c3,rfl,hBW,hO,hB,hRW⟩:=hcut;have S2':=zH (show SI w1.heap.size W 163 n (26 * 0) (r,[]) w1 wc from ⟨Vo HR.out,zR,⟨A3,c3,none,0,by rw [<- HM.out];exact hBW,by rw [<- HM.out];exact hO,World.ownsRow_nil _ _ _ _,hRW⟩,hB⟩);clear hBW hO;obtain ⟨R,hR⟩:∃ R,w1.heap.size=R:=⟨_,rfl⟩;have lw1:=B1.size;rw [hR] at S2' lw1 hRW;have hX1:=X1.lt;rw [hR] at hX1;have HBX:=zH (fun (wx:World) (h:Below R w1 wx)=>X1.below (hR ▸ h));have HB1:=zH (fun (wx:World) (h:Below R w1 wx)=>aa B1.out (hR ▸ h));go_wp2_with fail;clear hR hB X1 B1 RT;go_loopg [5] n (fun g i wr=>∃ (q:Nat) (s:df),q+g=n/\i=.int .i64 q/\nj n q g s=SF/\SI R W 163 n (26 * q) s w1 wr)
  case atStart=>exact ⟨0,_,zO,rfl,HSF.out,S2'.out⟩
  case round =>
   clear S2' HSF;obtain ⟨q,s,hq,rfl,hfin,hS⟩:=hrel;have HS:=zH hS;clear hS;obtain ⟨x0,x1,_⟩:=(HBX.out _ HS.out.2.2.2).two;by_cases hlt:q < n
   ·have NX:=zH (uL zO hfin);clear hfin;go_wp2_with fail;refine (Oo R W n (26 * q) q s w1 _ hn hlt HS zO).mono ?_;rintro e w5 ⟨rfl,h5⟩;have HS5:=zH h5;clear h5;go_wp2_with fail;go_roundg (gk - 1)
    all_goals first
     |omega
     |exact ⟨q+1,_,zO,by go_num,NX.out,HS5.mono zO⟩
   ·obtain rfl:n=q:=zO;obtain rfl:gk=0:=zO;obtain rfl:s=SF:=hfin;obtain ⟨A0,c0,A1,c1,hW⟩:=HS.out.2.2.1;obtain ⟨t0,t1,t2,_⟩:=hW.1.three;have GO:=zH hW.2.2.1;have bR:=zH (HB1 _ HS.out.2.2.2);clear hW;go_wp2_with fail;go_ret2;rw [HL2.out];exact ⟨A1,c1,rfl,ae GO lw1,bR⟩
theorem td {n:Nat} (hn:n<=4) (r:List Pq):(lc n r).length<=104:=by
 have:=yO hn n 0 (r,[]);unfold lc;simp only [List.length_nil] at this;omega
theorem RetGT.of {l:List Gt} {w w1 w':World} {A:Option Addr} {n c:Nat} (hb:Below w w w1) (hn:l.length=n) (ho:w'.ownsRow w1 39 4 (.slice A n c) n (af l)) (hb2:Below w1 w1 w'):RetGT l w (.returned (.tuple #[.slice A n c,.bool true])) w':=by
 subst hn;exact ⟨A,c,rfl,ae ho hb.size,aa hb hb2⟩
theorem Ot (n m c:Nat) (A:Option Addr) (r:List Pq) (w:World) (hn:1<=n/\n<=4) (hr:RdG w A m (dP n r)) (hmc:m<=c) (hok:ed n r) :
  Calls Tryz.prog 64 #[.agg #[n,.slice A m c]] w (RetGT (dk (lc n r)) w):=by
 have HW:=zH hr;have HR:=zH hok;have B0:=zH (show Below w w (w.alloc (.cells #[n,.slice A m c] 73)) from (zW).alloc zR _);clear hr hok;go_enter Tryz.func64,Tryz.ntmps64;go_wp2_with fail;refine (Kv n m c A r _ hn (HW.below B0) hmc HR).mono ?_;rintro e w1 ⟨A1,c1,rfl,o1,b1⟩;have O1:=zH o1;have B1:=zH (aa B0 b1);have hl:=td hn.2 r;clear o1 b1;go_wp2_with fail;refine (Kh _ c1 A1 (lc n r) _ (RdG.own O1) zO).mono ?_;rintro e w2 ⟨A2,c2,rfl,o2,b2⟩;go_wp2_with fail;go_ret2;exact RetGT.of B1.out (gi _) o2 b2
theorem Kx (w:World):Calls Tryz.prog 149 #[.agg #[(0:Int),.slice none 0 0]] w fun e w'=>e=.returned (.bool false)/\Below w w w':=by
 go_enter Tryz.func149,Tryz.ntmps149
 go_wp2_with (go_at_call 50;refine (el _ _ _ _).mono ?_;rintro e w1 ⟨rfl,rfl⟩;rw [show ee 0 1 4=false by decide])
 go_ret;exact ⟨rfl,(zW).alloc zR _⟩
theorem FP (w:World):Calls Tryz.prog 112 #[.agg #[(0:Int),.slice none 0 0]] w fun e w'=>(∃ A c,e=.returned (.tuple #[.slice A 0 c,.bool false]))/\Below w w w':=by
 go_enter Tryz.func112,Tryz.ntmps112
 go_wp2_with (go_at_call 149;refine (Kx _).mono ?_;rintro e w1 ⟨rfl,b1⟩;have b1:=aD b1)
 go_ret2;exact ⟨⟨_,_,rfl⟩,b1.alloc b1.size _⟩
theorem Ky (w:World):Calls Tryz.prog 64 #[.agg #[(0:Int),.slice none 0 0]] w fun e w'=>(∃ A c,e=.returned (.tuple #[.slice A 0 c,.bool false]))/\Below w w w':=by
 go_enter Tryz.func64,Tryz.ntmps64;go_wp2_with fail;refine (FP _).mono ?_;rintro e w1 ⟨⟨A1,c1,rfl⟩,b1⟩;have b1:=aD b1;go_wp2_with fail;refine (Kh 0 c1 A1 [] _ ⟨rfl,Rd.zero _ _ _⟩ zO).mono ?_;rintro e w2 ⟨A2,c2,rfl,o2,b2⟩;go_wp2_with fail;go_ret2;exact ⟨⟨_,_,rfl⟩,aa b1 b2⟩
theorem Ou (n m c:Nat) (A:Option Addr) (r:List Pq) (w:World) (hn:1<=n/\n<=4) (hr:RdG w A m (dP n r)) (hmc:m<=c) (hok:ed n r) :
  Calls Tryz.prog 68 #[.agg #[n,.slice A m c]] w (RetGT (dk (lc n r)) w):=by
 have HW:=zH hr;have HR:=zH hok;have B0:=zH (show Below w w (w.alloc (.cells #[n,.slice A m c] 73)) from (zW).alloc zR _);clear hr hok;go_enter Tryz.func68,Tryz.ntmps68;go_wp2_with fail;refine (Kw n m c A r _ hn (HW.below B0) hmc HR).mono ?_;rintro e w1 ⟨A1,c1,rfl,o1,b1⟩;have O1:=zH o1;have B1:=zH (aa B0 b1);have hl:=td hn.2 r;clear o1 b1;go_wp2_with fail;refine (Qi _ c1 A1 (lc n r) _ (RdG.own O1) zO).mono ?_;rintro e w2 ⟨A2,c2,rfl,o2,b2⟩;go_wp2_with fail;go_ret2;exact RetGT.of B1.out (gi _) o2 b2
theorem Kz (w:World):Calls Tryz.prog 155 #[.agg #[(0:Int),.slice none 0 0]] w fun e w'=>e=.returned (.bool false)/\Below w w w':=by
 go_enter Tryz.func155,Tryz.ntmps155
 go_wp2_with (go_at_call 70;refine (eK _ _ _ _).mono ?_;rintro e w1 ⟨rfl,rfl⟩;rw [show ee 0 1 4=false by decide])
 go_ret;exact ⟨rfl,(zW).alloc zR _⟩
theorem FQ (w:World):Calls Tryz.prog 116 #[.agg #[(0:Int),.slice none 0 0]] w fun e w'=>(∃ A c,e=.returned (.tuple #[.slice A 0 c,.bool false]))/\Below w w w':=by
 go_enter Tryz.func116,Tryz.ntmps116
 go_wp2_with (go_at_call 155;refine (Kz _).mono ?_;rintro e w1 ⟨rfl,b1⟩;have b1:=aD b1)
 go_ret2;exact ⟨⟨_,_,rfl⟩,b1⟩
theorem KC (w:World):Calls Tryz.prog 68 #[.agg #[(0:Int),.slice none 0 0]] w fun e w'=>(∃ A c,e=.returned (.tuple #[.slice A 0 c,.bool false]))/\Below w w w':=by
 go_enter Tryz.func68,Tryz.ntmps68;go_wp2_with fail;refine (FQ _).mono ?_;rintro e w1 ⟨⟨A1,c1,rfl⟩,b1⟩;have b1:=aD b1;go_wp2_with fail;go_ret2;exact ⟨⟨_,_,rfl⟩,b1⟩
theorem Ov (k a b c n:Int):fJ (ji k) a b c n=fJ k a b c n:=by
 have h:aA (ji k)=aA k:=by
  rcases mZ k with ⟨h1,h2⟩ | ⟨h1,h2⟩ | ⟨h1,h2⟩ | ⟨h1,h2⟩ | ⟨_,_,_,_,h2⟩
  ·subst h1;rfl
  ·subst h1;rfl
  ·subst h1;rfl
  ·subst h1;rfl
  ·rw [h2]
 unfold fJ;rw [h]
theorem Eb {n:Nat} {r:List Pq} (hn:1<=n/\n<=4) (h:ed n r):∀ g ∈ dk (lc n r),bF n g=true:=by
 intro g hg;unfold dk at hg;obtain ⟨g0,h0,rfl⟩:=List.mem_map.1 hg;have:=(Dy hn h g0 (by simpa using h0)).1;unfold bF at this ⊢;simp only;rw [Ov];exact this
def Vp (n:Nat) (r:List Pq):Bool:=decide (r.length=2 * n) && (r.all (fun a=>ci n a && kW a) && (List.range (2 * n)).all fun k=>(List.range k).all fun i=>il (r.getD i ⟨0,0,0⟩) (r.getD k ⟨0,0,0⟩) == !(decide (k=i+n)))
theorem Ow {n:Nat} {r:List Pq} (h:Vp n r=true):ed n r:=by
 unfold Vp at h;simp only [Bool.and_eq_true,decide_eq_true_eq,List.all_eq_true,List.mem_range,beq_iff_eq] at h;obtain ⟨h1,h2,h3⟩:=h;refine ⟨h1,h2,fun i k a b hik ha hb=>?_⟩;have hk:k < r.length:=(List.getElem?_eq_some_iff.1 hb).1;have:=h3 k zO i hik;rw [List.getD_eq_getElem?_getD,ha,List.getD_eq_getElem?_getD,hb] at this;exact this
theorem te {n:Nat} (hn:1<=n/\n<=4):ed n (ch n):=by
 obtain rfl | rfl | rfl | rfl:n=1\/n=2\/n=3\/n=4:=zO
 all_goals exact Ow (by decide +kernel)
def ja (l:List Gt) (n:Int):Option (List Gt):=if (qG l n && decide ((ir l n.toNat).length<=60))=true then some (ir l n.toNat) else none
abbrev Ec (n:Int) (o:Option (List Gt)) (w:World) (e:Ending) (w':World):Prop :=
 match o with
 |some l=>∃ A c,e=.returned (.tuple #[.agg #[n,.slice A l.length c],.bool true])/\w'.ownsRow w 39 4 (.slice A l.length c) l.length (af l)/\Below w w w'
 |none=>e=.returned (.tuple #[.agg #[(0:Int),.slice none 0 0],.bool false])/\Below w w w'
theorem zr {n:Nat} (hn:n<=4) (l:List Gt):(ir l n).length<=104:=by unfold ir;rw [gi];exact td hn _
theorem FR (n:Int) (m c:Nat) (A:Option Addr) (l:List Gt) (w:World) (hr:RdG w A m l) (hm:m<=1073741824) (hv:qG l n=false) :
  Calls Tryz.prog 63 #[.agg #[n,.slice A m c]] w fun e w'=>e=.returned (.tuple #[.agg #[(0:Int),.slice none 0 0],.bool false])/\Below w w w':=by
 have R0:=zH (show Bx ((w.alloc (.cells #[n,.slice A m c] 45)).alloc ZO.zT) (w.heap.size+1) 73 #[(0:Int),.slice none 0 0] from Bx.new' zI);have B0:=zH (show Below w w ((w.alloc (.cells #[n,.slice A m c] 45)).alloc ZO.zT) from ((zW).alloc zR _).alloc zI _);have HW:=zH hr;have HV:=zH hv;clear hr hv;go_enter Tryz.func63,Tryz.ntmps63;go_wp2_with fail;refine (AV A m c n l _ (HW.below B0) hm).mono ?_;rintro e w1 ⟨rfl,b1⟩;rw [HV.out];have R1:=zH (R0.below b1);have B1:=zH (aa B0 b1);clear b1 R0 B0;obtain ⟨r0,r1,r2,r3⟩:=R1.two;go_wp2_with fail;have RB:=R1.out
 with_reducible refine eD RB ?_ ?_ ⟨rfl,?_⟩
 ·intro wS z0 z1;simp [results,Tryz.results63,go_sem,z0,z1]
 ·rfl
 ·exact ay B1.out zO _ _
theorem Cn {p:Prop} (h:p:=by
  intro wS z0 z1;simp [results,Tryz.results32,go_sem,z0,z1]):p:=h
theorem Tb (n:Int) (m c:Nat) (A:Option Addr) (l:List Gt) (w:World) (hr:RdG w A m l) (hm:m<=1073741824) (hcl:∀ g ∈ l,bh g.k=true) :
  Calls Tryz.prog 32 #[.agg #[n,.slice A m c]] w (Ec n (ja l n) w):=by
 have X0:=zH (show Bx ((w.alloc (.cells #[n,.slice A m c] 45)).alloc (.cells #[(0:Int),.slice none 0 0] 45)) w.heap.size 45 _ from (Bx.new w _ _).alloc _);have R0:=zH (show Bx ((w.alloc (.cells #[n,.slice A m c] 45)).alloc (.cells #[(0:Int),.slice none 0 0] 45)) (w.heap.size+1) 45 #[(0:Int),.slice none 0 0] from Bx.new' zI);have B0:=zH (show Below w w ((w.alloc (.cells #[n,.slice A m c] 45)).alloc (.cells #[(0:Int),.slice none 0 0] 45)) from ((zW).alloc zR _).alloc zI _);have HW:=zH hr;have HC:=zH hcl;clear hr hcl;obtain ⟨x0,x1,_⟩:=X0.two;cases hv:qG l n
 ·have HV:=zH hv;have HZ:=zH (show ja l n=none by unfold ja;rw [hv];rfl);clear hv;go_enter Tryz.func32,Tryz.ntmps32;go_wp2_with fail;refine (FR n m c A l _ (HW.below B0) hm HV).mono ?_;rintro e w1 ⟨rfl,b1⟩;have X1:=zH ((X0.below b1).alloc ZO.zT);have R1:=zH ((R0.below b1).alloc ZO.zT);have B1:=zH ((aa B0 b1).alloc (aa B0 b1).size ZO.zT);clear b1 X0 R0 B0 x0 x1;obtain ⟨x0,x1,_⟩:=X1.two;go_wp2_with fail;refine (Ky _).mono ?_;rintro e w2 ⟨⟨A2,c2,rfl⟩,b2⟩;have X2:=zH (X1.below b2);have R2:=zH ((R1.below b2).alloc (.cells #[n,.slice A2 0 c2] 45));have B2:=zH ((aa B1 b2).alloc (aa B1 b2).size (.cells #[n,.slice A2 0 c2] 45));clear b2 X1 R1 B1 x0 x1;obtain ⟨x0,x1,_⟩:=X2.two;obtain ⟨r0,r1,r2,r3⟩:=R2.two;go_wp2_with fail;rw [HZ.out];have RB:=R2.out
  with_reducible refine eD RB ?_ ?_ ⟨rfl,?_⟩
  ·exact Cn
  ·rfl
  ·exact ay B2.out zO _ _
 ·obtain ⟨hn,hm60,hok⟩:(1<=n/\n<=4)/\l.length<=60/\Ak l n=true:=by
   unfold qG at hv;simp only [Bool.and_eq_true,decide_eq_true_eq] at hv;exact ⟨inB_iff.1 hv.1,hv.2.1,hv.2.2⟩
  obtain ⟨N,rfl⟩:∃ N:Nat,n=(N:Nat):=⟨n.toNat,zO⟩;have hN:1<=N/\N<=4:=zO;have HL:=zH (show ∀ g ∈ l,bF N g=true/\bh g.k=true from fun g hg=>⟨List.all_eq_true.1 hok g hg,HC.out g hg⟩);have hm60':m<=60:=by have:=HW.out.1;omega
  have HT:=zH (ku l (ch N) HL (te hN));have HSL:=zH (zr hN.2 l);have HE:=zH (show dk (lc N (bH N l (ch N)))=ir l N from rfl);obtain ⟨sl,hsl⟩:∃ s,(ir l N).length=s:=⟨_,rfl⟩;have hs104:sl<=104:=by rw [<- hsl];exact HSL.out
  have HSV:=zH (show qG (ir l N) N=decide (sl<=60) by
   have ha:Ak (ir l N) N=true:=List.all_eq_true.2 (Eb hN HT.out);unfold qG;rw [bG zO zO,ha,hsl,Bool.true_and,Bool.and_true])
  have HZ:=zH (show ja l N=if decide (sl<=60)=true then some (ir l N) else none by unfold ja;rw [hv,Int.toNat_natCast,hsl,Bool.true_and]);have HSLN:=zH hsl;clear hv hn hok hsl;go_enter Tryz.func32,Tryz.ntmps32;go_wp2_with fail;refine (zh N m c A l _ hN (HW.below B0) hm60' HL (te hN)).mono ?_;rintro e w1 ⟨A1,c1,rfl,o1,b1⟩;have X1:=zH ((X0.below b1).alloc (.cells #[N,.slice A1 (2 * N) c1] 73));have R1:=zH ((R0.below b1).alloc (.cells #[N,.slice A1 (2 * N) c1] 73));have B1:=zH ((aa B0 b1).alloc (aa B0 b1).size (.cells #[N,.slice A1 (2 * N) c1] 73));have O1:=zH (o1.alloc (.cells #[N,.slice A1 (2 * N) c1] 73));clear o1 b1 X0 R0 B0 x0 x1;obtain ⟨x0,x1,_⟩:=X1.two;go_wp2_with fail;refine (Ot N (2 * N) c1 A1 (bH N l (ch N)) _ hN (RdG.own O1) (ao O1) HT).mono ?_;rintro e w2 ⟨A2,c2,rfl,o2,b2⟩;rw [HE.out,HSLN.out] at o2 ⊢
  have X2:=zH ((X1.below b2).alloc (.cells #[N,.slice A2 sl c2] 45));have R2:=zH ((R1.below b2).alloc (.cells #[N,.slice A2 sl c2] 45));have B2:=zH ((aa B1 b2).alloc (aa B1 b2).size (.cells #[N,.slice A2 sl c2] 45));have O2:=zH (ae (base':=w.heap.size) (o2.alloc (.cells #[N,.slice A2 sl c2] 45)) B1.size);have C2:=zH (Bx.new w2 45 #[N,.slice A2 sl c2]);have xx:=(X1.below b2).two;clear o2 b2 X1 R1 B1 O1 x0 x1;obtain ⟨x0,x1,_⟩:=xx;go_wp2_with fail;refine (AV A2 sl c2 (N:Nat) (ir l N) _ (RdG.own O2) zO).mono ?_;rintro e w3 ⟨rfl,b3⟩;rw [HSV.out];have R3:=zH (R2.below b3);have B3:=zH (aa B2 b3);have O3:=zH (ab O2 b3);have C3:=zH (C2.below b3);clear b3 X2 R2 B2 O2 C2 x0 x1;obtain ⟨r0,r1,r2,r3⟩:=R3.two;obtain ⟨p0,p1,_⟩:=C3.two;cases hd:decide (sl<=60)
  ·have HZ:=zH (show ja l N=none from by rw [HZ.out,hd];rfl);go_wp2_with fail;rw [HZ.out];have RB:=R3.out
   with_reducible refine eD RB ?_ ?_ ⟨rfl,?_⟩
   ·exact Cn
   ·rfl
   ·exact ay B3.out zO _ _
  ·have HZ:=zH (show ja l N=some (ir l N) from by rw [HZ.out,hd];rfl);go_wp2_with fail;rw [HZ.out];have RB:=R3.out;have h1:Bx (w3.setCell ⟨w.heap.size+1,0,none⟩ (.int .i64 (N:Nat))) (w.heap.size+1) 45 #[N,.slice none 0 0]:=by simpa using RB.set_ 0 (.int .i64 (N:Nat))
   with_reducible refine eD (v:=.tuple #[.agg #[N,.slice A2 sl c2],.bool true]) RB ?_ ?_ ⟨A2,c2,?_,?_,?_⟩
   ·exact Cn
   ·rfl
   ·rw [HSLN.out]
   ·rw [HSLN.out];exact aM (aM O3.out RB zD 0 _) h1 zD 1 _
   ·exact ay B3.out zO _ _
theorem FT (n:Int) (m c:Nat) (A:Option Addr) (l:List Gt) (w:World) (hr:RdG w A m l) (hm:m<=1073741824) (hv:qG l n=false) :
  Calls Tryz.prog 67 #[.agg #[n,.slice A m c]] w fun e w'=>e=.returned (.tuple #[.agg #[(0:Int),.slice none 0 0],.bool false])/\Below w w w':=by
 have R0:=zH (show Bx ((w.alloc (.cells #[n,.slice A m c] 45)).alloc ZO.zT) (w.heap.size+1) 73 #[(0:Int),.slice none 0 0] from Bx.new' zI);have B0:=zH (show Below w w ((w.alloc (.cells #[n,.slice A m c] 45)).alloc ZO.zT) from ((zW).alloc zR _).alloc zI _);have HW:=zH hr;have HV:=zH hv;clear hr hv;go_enter Tryz.func67,Tryz.ntmps67;go_wp2_with fail;refine (AX A m c n l _ (HW.below B0) hm).mono ?_;rintro e w1 ⟨rfl,b1⟩;rw [HV.out];have R1:=zH (R0.below b1);have B1:=zH (aa B0 b1);clear b1 R0 B0;obtain ⟨r0,r1,r2,r3⟩:=R1.two;go_wp2_with fail;have RB:=R1.out
 with_reducible refine eD RB ?_ ?_ ⟨rfl,?_⟩
 ·intro wS z0 z1;simp [results,Tryz.results67,go_sem,z0,z1]
 ·rfl
 ·exact ay B1.out zO _ _
theorem Co {p:Prop} (h:p:=by
  intro wS z0 z1;simp [results,Tryz.results37,go_sem,z0,z1]):p:=h
theorem Tc (n:Int) (m c:Nat) (A:Option Addr) (l:List Gt) (w:World) (hr:RdG w A m l) (hm:m<=1073741824) (hcl:∀ g ∈ l,bh g.k=true) :
  Calls Tryz.prog 37 #[.agg #[n,.slice A m c]] w (Ec n (ja l n) w):=by
 have X0:=zH (show Bx ((w.alloc (.cells #[n,.slice A m c] 45)).alloc (.cells #[(0:Int),.slice none 0 0] 45)) w.heap.size 45 _ from (Bx.new w _ _).alloc _);have R0:=zH (show Bx ((w.alloc (.cells #[n,.slice A m c] 45)).alloc (.cells #[(0:Int),.slice none 0 0] 45)) (w.heap.size+1) 45 #[(0:Int),.slice none 0 0] from Bx.new' zI);have B0:=zH (show Below w w ((w.alloc (.cells #[n,.slice A m c] 45)).alloc (.cells #[(0:Int),.slice none 0 0] 45)) from ((zW).alloc zR _).alloc zI _);have HW:=zH hr;have HC:=zH hcl;clear hr hcl;obtain ⟨x0,x1,_⟩:=X0.two;cases hv:qG l n
 ·have HV:=zH hv;have HZ:=zH (show ja l n=none by unfold ja;rw [hv];rfl);clear hv;go_enter Tryz.func37,Tryz.ntmps37;go_wp2_with fail;refine (FT n m c A l _ (HW.below B0) hm HV).mono ?_;rintro e w1 ⟨rfl,b1⟩;have X1:=zH ((X0.below b1).alloc ZO.zT);have R1:=zH ((R0.below b1).alloc ZO.zT);have B1:=zH ((aa B0 b1).alloc (aa B0 b1).size ZO.zT);clear b1 X0 R0 B0 x0 x1;obtain ⟨x0,x1,_⟩:=X1.two;go_wp2_with fail;refine (KC _).mono ?_;rintro e w2 ⟨⟨A2,c2,rfl⟩,b2⟩;have X2:=zH (X1.below b2);have R2:=zH ((R1.below b2).alloc (.cells #[n,.slice A2 0 c2] 45));have B2:=zH ((aa B1 b2).alloc (aa B1 b2).size (.cells #[n,.slice A2 0 c2] 45));clear b2 X1 R1 B1 x0 x1;obtain ⟨x0,x1,_⟩:=X2.two;obtain ⟨r0,r1,r2,r3⟩:=R2.two;go_wp2_with fail;rw [HZ.out];have RB:=R2.out
  with_reducible refine eD RB ?_ ?_ ⟨rfl,?_⟩
  ·exact Co
  ·rfl
  ·exact ay B2.out zO _ _
 ·obtain ⟨hn,hm60,hok⟩:(1<=n/\n<=4)/\l.length<=60/\Ak l n=true:=by
   unfold qG at hv;simp only [Bool.and_eq_true,decide_eq_true_eq] at hv;exact ⟨inB_iff.1 hv.1,hv.2.1,hv.2.2⟩
  obtain ⟨N,rfl⟩:∃ N:Nat,n=(N:Nat):=⟨n.toNat,zO⟩;have hN:1<=N/\N<=4:=zO;have HL:=zH (show ∀ g ∈ l,bF N g=true/\bh g.k=true from fun g hg=>⟨List.all_eq_true.1 hok g hg,HC.out g hg⟩);have hm60':m<=60:=by have:=HW.out.1;omega
  have HT:=zH (ku l (ch N) HL (te hN));have HSL:=zH (zr hN.2 l);have HE:=zH (show dk (lc N (bH N l (ch N)))=ir l N from rfl);obtain ⟨sl,hsl⟩:∃ s,(ir l N).length=s:=⟨_,rfl⟩;have hs104:sl<=104:=by rw [<- hsl];exact HSL.out
  have HSV:=zH (show qG (ir l N) N=decide (sl<=60) by
   have ha:Ak (ir l N) N=true:=List.all_eq_true.2 (Eb hN HT.out);unfold qG;rw [bG zO zO,ha,hsl,Bool.true_and,Bool.and_true])
  have HZ:=zH (show ja l N=if decide (sl<=60)=true then some (ir l N) else none by unfold ja;rw [hv,Int.toNat_natCast,hsl,Bool.true_and]);have HSLN:=zH hsl;clear hv hn hok hsl;go_enter Tryz.func37,Tryz.ntmps37;go_wp2_with fail;refine (y8 N m c A l _ hN (HW.below B0) hm60' HL (te hN)).mono ?_;rintro e w1 ⟨A1,c1,rfl,o1,b1⟩;have X1:=zH ((X0.below b1).alloc (.cells #[N,.slice A1 (2 * N) c1] 73));have R1:=zH ((R0.below b1).alloc (.cells #[N,.slice A1 (2 * N) c1] 73));have B1:=zH ((aa B0 b1).alloc (aa B0 b1).size (.cells #[N,.slice A1 (2 * N) c1] 73));have O1:=zH (o1.alloc (.cells #[N,.slice A1 (2 * N) c1] 73));clear o1 b1 X0 R0 B0 x0 x1;obtain ⟨x0,x1,_⟩:=X1.two;go_wp2_with fail;refine (Ou N (2 * N) c1 A1 (bH N l (ch N)) _ hN (RdG.own O1) (ao O1) HT).mono ?_;rintro e w2 ⟨A2,c2,rfl,o2,b2⟩;rw [HE.out,HSLN.out] at o2 ⊢
  have X2:=zH ((X1.below b2).alloc (.cells #[N,.slice A2 sl c2] 45));have R2:=zH ((R1.below b2).alloc (.cells #[N,.slice A2 sl c2] 45));have B2:=zH ((aa B1 b2).alloc (aa B1 b2).size (.cells #[N,.slice A2 sl c2] 45));have O2:=zH (ae (base':=w.heap.size) (o2.alloc (.cells #[N,.slice A2 sl c2] 45)) B1.size);have C2:=zH (Bx.new w2 45 #[N,.slice A2 sl c2]);have xx:=(X1.below b2).two;clear o2 b2 X1 R1 B1 O1 x0 x1;obtain ⟨x0,x1,_⟩:=xx;go_wp2_with fail;refine (AX A2 sl c2 (N:Nat) (ir l N) _ (RdG.own O2) zO).mono ?_;rintro e w3 ⟨rfl,b3⟩;rw [HSV.out];have R3:=zH (R2.below b3);have B3:=zH (aa B2 b3);have O3:=zH (ab O2 b3);have C3:=zH (C2.below b3);clear b3 X2 R2 B2 O2 C2 x0 x1;obtain ⟨r0,r1,r2,r3⟩:=R3.two;obtain ⟨p0,p1,_⟩:=C3.two;cases hd:decide (sl<=60)
  ·have HZ:=zH (show ja l N=none from by rw [HZ.out,hd];rfl);go_wp2_with fail;rw [HZ.out];have RB:=R3.out
   with_reducible refine eD RB ?_ ?_ ⟨rfl,?_⟩
   ·exact Co
   ·rfl
   ·exact ay B3.out zO _ _
  ·have HZ:=zH (show ja l N=some (ir l N) from by rw [HZ.out,hd];rfl);go_wp2_with fail;rw [HZ.out];have RB:=R3.out;have h1:Bx (w3.setCell ⟨w.heap.size+1,0,none⟩ (.int .i64 (N:Nat))) (w.heap.size+1) 45 #[N,.slice none 0 0]:=by simpa using RB.set_ 0 (.int .i64 (N:Nat))
   with_reducible refine eD (v:=.tuple #[.agg #[N,.slice A2 sl c2],.bool true]) RB ?_ ?_ ⟨A2,c2,?_,?_,?_⟩
   ·exact Co
   ·rfl
   ·rw [HSLN.out]
   ·rw [HSLN.out];exact aM (aM O3.out RB zD 0 _) h1 zD 1 _
   ·exact ay B3.out zO _ _
end Go.Proofs.YtmenmibfkojnoaaGreat
