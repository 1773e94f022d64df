/- Contract of BestRewrite (spec). -/
import Derived.Test.YtmenmibfkojnoaaGreatY52
set_option maxHeartbeats 16000000
set_option maxRecDepth 100000
namespace Go.Proofs.YtmenmibfkojnoaaGreat
open Go.RowKit
set_option linter.unusedVariables false
theorem LH {p:Prop} (h:p:=by
  have hcb:decide (aR x < aR b)=false:=decide_eq_false hc;go_wp2_with fail;go_roundg (gk - 1)
  all_goals first
   |omega
   |exact ⟨k+1,A1,c1,b,zO,by go_num,rfl,HN2.out,hbl,O3.out,W3.out,B3.out⟩):p:=h
theorem LI {p:Prop} (h:p:=by
  have hcb:decide (aR x < aR b)=true:=decide_eq_true hc;go_wp2_with fail;go_roundg (gk - 1)
  all_goals first
   |omega
   |exact ⟨k+1,D,d,x,zO,by go_num,rfl,HN2.out,hxl,OX3.out,W3.out,B3.out⟩):p:=h
theorem LJ {p:Prop} (h:p:=by
  obtain rfl:k=M:=zO;have HE:=zH (CF (by rw [W1.out.1];exact zR) HF.out);go_wp2_with fail;go_ret;rw [<- HE.out];exact ⟨A1,c1,rfl,O1,B1⟩):p:=h
theorem TQ (n:Int) (m c:Nat) (A:Option Addr) (l:List Gt) (w:World) (hr:RdG w A m l) (hm:m<=1073741824) :
  Calls Tryz.prog 9 #[.slice A m c,n] w (jl 39 4 (af (iE l n)) (iE l n).length w):=by
 have hz4:(Value.agg #[(0:Int),(0:Int),(0:Int),(0:Int)]).cells.size=4:=rfl;have hz1:(Value.slice none 0 0).cells.size=1:=rfl;have HW:=zH hr;have HN:=zH hr.1;have HL1:=zH (show (aG l).length<=1073741824 by have:=gQ l;have:=hr.1;omega);have HLF:=zH (show (cf l n).1.length<=2147483648 by have:=kH l n;have:=hr.1;omega);have HLS:=zH (show (aO l n).length<=107374182400 by have:=mh l n;have:=hr.1;omega);have HWL:=zH (show ∀ x ∈ gv l n,x.length<=107374182460 from fun x hx=>by have:=Aa hx;have:=hr.1;omega);obtain ⟨F,hF⟩:∃ F,iE l n=F:=⟨_,rfl⟩;have HF:=zH (show dy ((gv l n).drop 0) l=F from hF);rw [hF];clear hr hF;go_enter Tryz.func9,Tryz.ntmps9;go_wp2_with fail;refine (BO A m c l n _ HW hm).mono ?_;obtain ⟨f,hf⟩:∃ f,cf l n=f:=⟨_,rfl⟩;have HFF:=zH hf;rw [hf] at HLF ⊢;clear hf;rintro e w1 ⟨A1,c1,rfl,o1,b1⟩;have O1:=zH o1
 have B1:=zH b1;have hlf:=HLF.out;clear o1 b1;go_wp2_with fail;refine (kF A m c l _ (HW.below B1) zO).mono ?_;rintro e w2 ⟨A2,c2,rfl,o2,b2⟩;have O2:=zH (ae o2 B1.size);have O1':=zH (ab O1.out b2);have B2:=zH (aa B1 b2);clear o2 b2 O1 B1;go_wp2_with fail;refine (kF A1 f.1.length c1 f.1 _ (RdG.own O1'.out) zO).mono ?_;rintro e w3 ⟨A3,c3,rfl,o3,b3⟩;have O2':=zH (ab O2.out b3);have O3:=zH (ae o3 B2.size);have B3:=zH (aa B2 b3);clear o3 b3 O2 O1' B2;go_wp2_with fail;refine (Gc n m c A l _ (HW.below B3) hm).mono ?_;rintro e w4 ⟨A4,c4,rfl,o4,b4⟩;have O2:=zH (ab O2'.out b4);have O3':=zH (ab O3.out b4);have O4:=zH o4;have B4:=zH (aa B3 b4);have hls:=HLS.out;clear o4 b4 O2' O3 B3;go_wp2_with fail;refine (kF A4 (aO l n).length c4 (aO l n) _ (RdG.own O4) zO).mono ?_
 rintro e w5 ⟨A5,c5,rfl,o5,b5⟩;have Z5:=zH (aa B4 b5);have W5:=zH (show OwnW (w5.alloc (.cells #[.slice A2 (aG l).length c2,.slice A3 (aG f.1).length c3,.slice A5 (aG (aO l n)).length c5] 24)) w.heap.size (some ⟨w5,0,none⟩) 3 3 [aG l,aG f.1,aG (aO l n)] from ⟨rfl,_,World.ownsRow_lit w5 #[.slice A2 (aG l).length c2,.slice A3 (aG f.1).length c3,.slice A5 (aG (aO l n)).length c5] 3 (aa B4.out b5).size zM rfl,fun k x hx=>by
  match k,hx with
  |0,hx=>injection hx with hx;subst hx;exact ⟨A2,c2,rfl,(ab O2.out b5).alloc _⟩
  |1,hx=>injection hx with hx;subst hx;exact ⟨A3,c3,rfl,(ab O3'.out b5).alloc _⟩
  |2,hx=>injection hx with hx;subst hx;exact ⟨A5,c5,rfl,(ae o5 B4.size).alloc _⟩
  |k+3,hx=>simp at hx⟩)
 have B5:=zH (Z5.alloc Z5.size (.cells #[.slice A2 (aG l).length c2,.slice A3 (aG f.1).length c3,.slice A5 (aG (aO l n)).length c5] 24));have HWY:=zH (show gv l n=[aG l,aG f.1,aG (aO l n)]++wv l n by unfold gv;rw [HFF.out]);clear o5 b5 O2 O3' O4 B4 Z5;go_wp2_with fail;refine (tT A m c l _ (HW.below B5) zO).mono ?_;rintro e w6 ⟨rfl,b6⟩;have W6:=zH (W5.below b6);have B6:=zH (B5.trans (b6.mono B5.size));have l6:=B6.size;clear b6 W5 B5;go_upto_if 28 with fail
 go_cut [7,8,9] from 28 to 42 (fun v7 v8 v9 wx=>∃ A' M c',v7=.slice A' M c'/\M<=1000/\OwnW wx w.heap.size A' M c' (gv l n)/\Below w w wx)
 case first =>
  cases hc:gA l
  ·have HE:=zH (show gv l n=[aG l,aG f.1,aG (aO l n)] by rw [HWY.out,kN (.inl hc)];rfl);clear hc;go_wp2_with fail;go_meet;exact ⟨_,3,3,rfl,zO,by rw [HE.out];exact W6.out,B6.out⟩
  ·have HC:=zH hc;clear hc;go_wp2_with fail;refine (Tb n m c A l _ (HW.below B6) hm (zZ HC)).mono ?_;cases hrs:ja l n with
   |none =>
    have HE:=zH (show gv l n=[aG l,aG f.1,aG (aO l n)] by rw [HWY.out,kN (.inr hrs)];rfl);clear hrs;rintro e w7 ⟨rfl,b7⟩;have W7:=zH ((W6.below b7).alloc (.cells #[(0:Int),.slice none 0 0] 45));have B7:=zH ((B6.trans (b7.mono l6)).alloc (Nat.le_trans l6 b7.size) (.cells #[(0:Int),.slice none 0 0] 45));clear b7 W6 B6;go_wp2_with fail;go_meet;exact ⟨_,3,3,rfl,zO,by rw [HE.out];exact W7.out,B7.out⟩
   |some s =>
    obtain ⟨hw1,hw2⟩:=tD HC.out hrs;have HE:=zH (show gv l n=[aG l,aG f.1,aG (aO l n)]++[aG s] by rw [HWY.out,hw1]);clear hrs hw1;rintro e w7 ⟨A7,c7,rfl,o7,b7⟩;have W7:=zH ((W6.below b7).alloc (.cells #[n,.slice A7 s.length c7] 45));have B7:=zH ((B6.trans (b7.mono l6)).alloc (Nat.le_trans l6 b7.size) (.cells #[n,.slice A7 s.length c7] 45));have O7:=zH (RdG.own (o7.alloc (.cells #[n,.slice A7 s.length c7] 45)));have X7:=zH (Bx.new w7 45 #[n,.slice A7 s.length c7]);obtain ⟨x0,x1,_⟩:=X7.two;have l7:=B7.size;clear o7 b7 W6 B6;go_wp2_with fail;refine (kF A7 s.length c7 s _ O7 zO).mono ?_;rintro e w8 ⟨A8,c8,rfl,o8,b8⟩;have O8:=zH ((ae o8 l7).alloc (.cells #[.slice A8 (aG s).length c8] 24));have B8:=zH ((B7.trans (b8.mono l7)).alloc (Nat.le_trans l7 b8.size) (.cells #[.slice A8 (aG s).length c8] 24))
    obtain ⟨hlw,vs,hv,hiw⟩:=(W7.below b8).alloc (.cells #[.slice A8 (aG s).length c8] 24);have HV:=zH hv;have HI:=zH hiw;have HLW:=zH hlw;have l8:=B8.size;clear o8 b8 W7 B7 O7 X7 x0 x1 hlw hv hiw
    go_wp2_with (at_builtin;refine ah rfl (.tmp 37) (.tmp 41) 42 rfl Tryz.underlying42 tg hz1 zD rfl HV.out rfl (Rd.lit w8 24 #[.slice A8 (aG s).length c8] 1 1 rfl) zV zO zD l8 ?_;intro A9 c9 w9 o9 g9;have W9:=zH (OwnW.push (x:=aG s) (D:=A8) (d:=c8) HLW.out HV.out HI.out O8.out g9 o9);have B9:=zH (ag B8.out l8 HV.out zR g9))
    go_meet;exact ⟨A9,4,c9,rfl,zO,by rw [HE.out];exact W9.out,B9.out⟩
 case rest =>
  obtain ⟨A',M,c',rfl,hM,hW,hB⟩:=hcut;have WW:=zH hW;have BB:=zH hB;have lw:=hB.size;clear hW hB W6 B6 l6;obtain ⟨w9,rfl⟩:∃ x,x=wc:=⟨_,rfl⟩
  go_wp2_with (at_builtin;refine dN rfl (.tmp 43) (.tmp 44) 24 rfl Tryz.underlying24 ak hz4 (base:=w9.heap.size) rfl (Bx.new' zI) zR rfl ((HW.below BB.out).2.alloc _) zO zD ?_;intro A0 c0 wa o0 b0;have ZB:=zH (((Below.refl w9 w9).alloc zR (.cells #[] 39)).trans (b0.mono zI));have O0:=zH (show wa.ownsRow w 39 4 (.slice A0 l.length c0) l.length (af l) by rw [HN.out];exact ae o0 lw);have WA:=zH (WW.below ZB.out);have BA:=zH (BB.trans (ZB.mono lw));rw [<- HN.out];clear o0 b0 ZB)
  go_loopg [10,11] M (fun g v10 i wr=>∃ (k:Nat) (A1:Option Addr) (c1:Nat) (b:List Gt),k+g=M/\i=.int .i64 (k:Nat)/\v10=.slice A1 b.length c1/\dy ((gv l n).drop k) b=F/\b.length<=107374182460/\wr.ownsRow w 39 4 (.slice A1 b.length c1) b.length (af b)/\OwnW wr w.heap.size A' M c' (gv l n)/\Below w w wr)
  case atStart=>exact ⟨0,A0,c0,l,zO,rfl,rfl,HF.out,by have:=HN.out;omega,O0.out,WA.out,BA.out⟩
  case round =>
   clear O0 WA BA HF WW BB;obtain ⟨k,A1,c1,b,hk,rfl,rfl,hF,hbl,hO,hW,hB⟩:=hrel;have HF:=zH hF;have O1:=zH hO;have W1:=zH hW;have B1:=zH hB;clear hF hO hW hB;by_cases hlt:k < M
   ·obtain ⟨x,hx⟩:=aV (l:=gv l n) (k:=k) (by rw [W1.out.1];exact hlt);obtain ⟨bb,off,D,d,rfl,hbl2,y0,ox⟩:=W1.at_ hx;have OX:=zH ox;have NX:=zH (qi hx HF);have hxl:=HWL.out x (List.mem_of_getElem? hx);have kn:(k:Int) < (M:Int):=zO;clear hx ox;go_wp2_with fail;refine (kt D x.length d x _ (RdG.own OX) zO).mono ?_;rintro e w2 ⟨rfl,b2⟩;have O2:=zH (ab O1 b2);have W2:=zH (W1.below b2);have B2:=zH (B1.trans (b2.mono B1.size));have OX2:=zH (ab OX b2);have y2:=(b2.cell (p:=⟨bb,off+k,none⟩) hbl2).trans y0;have hbl3:bb < w2.heap.size:=Nat.lt_of_lt_of_le hbl2 b2.size;clear b2 O1 W1 B1 OX y0;go_wp2_with fail;refine (kt A1 b.length c1 b _ (RdG.own O2) zO).mono ?_;rintro e w3 ⟨rfl,b3⟩;have O3:=zH (ab O2 b3);have W3:=zH (W2.below b3);have B3:=zH (B2.trans (b3.mono B2.size));have OX3:=zH (ab OX2 b3)
    have y3:=(b3.cell (p:=⟨bb,off+k,none⟩) hbl3).trans y2;clear b3 O2 W2 B2 OX2 y2;by_cases hc:aR x < aR b
    ·have HN2:=zH (show dy ((gv l n).drop (k+1)) x=F by have:=NX.out;rwa [if_pos hc] at this);exact LI
    ·have HN2:=zH (show dy ((gv l n).drop (k+1)) b=F by have:=NX.out;rwa [if_neg hc] at this);exact LH
   ·exact LJ
theorem CI {p:Prop} (h:p:=by
  go_wp2_with fail;go_meet;exact ⟨by rw [HK2.out],W6.out,B6.out⟩):p:=h
theorem TS (n:Int) (m c:Nat) (A:Option Addr) (l:List Gt) (w:World) (hr:RdG w A m l) (hm:m<=1073741824) :
  Calls Tryz.prog 11 #[.slice A m c,n] w (jl 39 4 (af (iE l n)) (iE l n).length w):=by
 have hz4:(Value.agg #[(0:Int),(0:Int),(0:Int),(0:Int)]).cells.size=4:=rfl;have hz1:(Value.slice none 0 0).cells.size=1:=rfl;obtain rfl:m=l.length:=hr.1.symm;have HW:=zH hr;have HL1:=zH (show (aG l).length<=1073741824 by have:=gQ l;have:=hr.1;omega);have HLF:=zH (show (cf l n).1.length<=2147483648 by have:=kH l n;have:=hr.1;omega);have HLS:=zH (show (aO l n).length<=107374182400 by have:=mh l n;have:=hr.1;omega);have HWL:=zH (show ∀ x ∈ l :: gv l n,x.length<=107374182460 from fun x hx=>by
  have h1:=hr.1;rcases List.mem_cons.1 hx with h | h
  ·rw [h];omega
  ·have:=Aa h;omega)
 obtain ⟨F,hF⟩:∃ F,iE l n=F:=⟨_,rfl⟩;have HF:=zH (show dy ((l :: gv l n).drop 0) l=F from (Gf l n).trans hF);rw [hF];clear hr hF;go_enter Tryz.func11,Tryz.ntmps11;go_wp2_with fail;refine (BN A l.length c l n _ HW hm).mono ?_;obtain ⟨f,hf⟩:∃ f,cf l n=f:=⟨_,rfl⟩;have HFF:=zH hf;rw [hf] at HLF ⊢;clear hf;rintro e w1 ⟨A1,c1,rfl,o1,b1⟩;have O1:=zH o1;have B1:=zH b1;have hlf:=HLF.out;clear o1 b1;go_wp2_with fail;refine (dB A l.length c l _ (HW.below B1) zO).mono ?_;rintro e w1b ⟨Ac,cc,rfl,oc,bc⟩;have OC0:=zH (ae oc B1.size);have O1:=zH (ab O1 bc);have B1:=zH (aa B1 bc);clear oc bc;go_wp2_with fail;refine (kG A l.length c l _ (HW.below B1) zO).mono ?_;rintro e w2 ⟨A2,c2,rfl,o2,b2⟩;have OC1:=zH (ab OC0 b2);have O2:=zH (ae o2 B1.size);have O1':=zH (ab O1.out b2)
 have B2:=zH (aa B1 b2);clear o2 b2 O1 B1;go_wp2_with fail;refine (kG A1 f.1.length c1 f.1 _ (RdG.own O1'.out) zO).mono ?_;rintro e w3 ⟨A3,c3,rfl,o3,b3⟩;have O2':=zH (ab O2.out b3);have OC2:=zH (ab OC1 b3);have O3:=zH (ae o3 B2.size);have B3:=zH (aa B2 b3);clear o3 b3 O2 O1' B2;go_wp2_with fail;refine (Gd n l.length c A l _ (HW.below B3) hm).mono ?_;rintro e w4 ⟨A4,c4,rfl,o4,b4⟩;have O2:=zH (ab O2'.out b4);have OC3:=zH (ab OC2 b4);have O3':=zH (ab O3.out b4);have O4:=zH o4;have B4:=zH (aa B3 b4);have hls:=HLS.out;clear o4 b4 O2' O3 B3;go_wp2_with fail;refine (kG A4 (aO l n).length c4 (aO l n) _ (RdG.own O4) zO).mono ?_;rintro e w5 ⟨A5,c5,rfl,o5,b5⟩;have Z5:=zH (aa B4 b5)
 have W5:=zH (show OwnW (w5.alloc (.cells #[.slice Ac l.length cc,.slice A2 (aG l).length c2,.slice A3 (aG f.1).length c3,.slice A5 (aG (aO l n)).length c5] 24)) w.heap.size (some ⟨w5,0,none⟩) 4 4 [l,aG l,aG f.1,aG (aO l n)] from ⟨rfl,_,World.ownsRow_lit w5 #[.slice Ac l.length cc,.slice A2 (aG l).length c2,.slice A3 (aG f.1).length c3,.slice A5 (aG (aO l n)).length c5] 4 (aa B4.out b5).size zM rfl,fun k x hx=>by
  match k,hx with
  |0,hx=>injection hx with hx;subst hx;exact ⟨Ac,cc,rfl,(ab OC3.out b5).alloc _⟩
  |1,hx=>injection hx with hx;subst hx;exact ⟨A2,c2,rfl,(ab O2.out b5).alloc _⟩
  |2,hx=>injection hx with hx;subst hx;exact ⟨A3,c3,rfl,(ab O3'.out b5).alloc _⟩
  |3,hx=>injection hx with hx;subst hx;exact ⟨A5,c5,rfl,(ae o5 B4.size).alloc _⟩
  |k+4,hx=>simp at hx⟩)
 have B5:=zH (Z5.alloc Z5.size (.cells #[.slice Ac l.length cc,.slice A2 (aG l).length c2,.slice A3 (aG f.1).length c3,.slice A5 (aG (aO l n)).length c5] 24));have HWY:=zH (show l :: gv l n=[l,aG l,aG f.1,aG (aO l n)]++wv l n by unfold gv;rw [HFF.out];rfl);obtain ⟨WS,hws⟩:∃ WS,l :: gv l n=WS:=⟨_,rfl⟩;have HWS:=zH hws;rw [hws] at HWY HWL HF;clear hws;clear o5 b5 O2 O3' O4 B4 Z5;obtain ⟨K,hK⟩:∃ K,(gA l && decide (l.length<=60))=K:=⟨_,rfl⟩;have HKK:=zH hK;clear hK;go_upto_region 3 with fail
 go_cut [36] from 30 to 36 (fun v wx=>v=.bool K/\OwnW wx w.heap.size (some ⟨w5,0,none⟩) 4 4 [l,aG l,aG f.1,aG (aO l n)]/\Below w w wx)
 case first =>
  go_wp2_with fail;refine (tU A l.length c l _ (HW.below B5) zO).mono ?_;rintro e w6 ⟨rfl,b6⟩;have W6:=zH (W5.below b6);have B6:=zH (B5.trans (b6.mono B5.size));cases hc:gA l
  ·have HK2:=zH (show K=false by rw [<- HKK.out,hc];rfl);exact CI
  ·by_cases h60:l.length<=60
   ·have h60I:(l.length:Int)<=60:=zO;have h60b:decide (l.length<=60)=true:=decide_eq_true h60;have HK2:=zH (show K=true by rw [<- HKK.out,hc,h60b];rfl);exact CI
   ·have h60I:¬ (l.length:Int)<=60:=zO;have h60c:decide ((l.length:Int)<=60)=false:=decide_eq_false h60I;have h60b:decide (l.length<=60)=false:=decide_eq_false h60;have HK2:=zH (show K=false by rw [<- HKK.out,hc,h60b];rfl);exact CI
 case rest =>
 obtain ⟨rfl,hW6,hB6⟩:=hcut;have W6:=zH hW6;have B6:=zH hB6;have l6:=hB6.size;clear hW6 hB6 W5 B5;obtain ⟨w6,rfl⟩:∃ x,x=wc:=⟨_,rfl⟩;go_upto_if 36 with fail
 go_cut [7,8,9] from 37 to 50 (fun v7 v8 v9 wx=>∃ A' M c',v7=.slice A' M c'/\M<=1000/\OwnW wx w.heap.size A' M c' WS/\Below w w wx)
 case first =>
  have hb:=HKK.out;cases K
  ·have HE:=zH (show WS=[l,aG l,aG f.1,aG (aO l n)] by
    have h0:wv l n=[]:=by
     rcases (Bool.and_eq_false_iff.1 hb) with h | h
     ·exact kN (.inl h)
     ·exact kN (.inr (Ge (of_decide_eq_false h)))
    rw [HWY.out,h0];rfl)
   clear hb;go_wp2_with fail;go_meet;exact ⟨_,4,4,rfl,zO,by rw [HE.out];exact W6.out,B6.out⟩
  ·have HC:=zH (Bool.and_eq_true_iff.1 hb).1;clear hb;go_wp2_with fail;refine (Tc n l.length c A l _ (HW.below B6) hm (zZ HC)).mono ?_;cases hrs:ja l n with
   |none =>
    have HE:=zH (show WS=[l,aG l,aG f.1,aG (aO l n)] by rw [HWY.out,kN (.inr hrs)];rfl);clear hrs;rintro e w7 ⟨rfl,b7⟩;have W7:=zH ((W6.below b7).alloc (.cells #[(0:Int),.slice none 0 0] 45));have B7:=zH ((B6.trans (b7.mono l6)).alloc (Nat.le_trans l6 b7.size) (.cells #[(0:Int),.slice none 0 0] 45));clear b7 W6 B6;go_wp2_with fail;go_meet;exact ⟨_,4,4,rfl,zO,by rw [HE.out];exact W7.out,B7.out⟩
   |some s =>
    obtain ⟨hw1,hw2⟩:=tD HC.out hrs;have HE:=zH (show WS=[l,aG l,aG f.1,aG (aO l n)]++[aG s] by rw [HWY.out,hw1]);clear hrs hw1;rintro e w7 ⟨A7,c7,rfl,o7,b7⟩;have W7:=zH ((W6.below b7).alloc (.cells #[n,.slice A7 s.length c7] 45));have B7:=zH ((B6.trans (b7.mono l6)).alloc (Nat.le_trans l6 b7.size) (.cells #[n,.slice A7 s.length c7] 45));have O7:=zH (RdG.own (o7.alloc (.cells #[n,.slice A7 s.length c7] 45)));have X7:=zH (Bx.new w7 45 #[n,.slice A7 s.length c7]);obtain ⟨x0,x1,_⟩:=X7.two;have l7:=B7.size;clear o7 b7 W6 B6;go_wp2_with fail;refine (kG A7 s.length c7 s _ O7 zO).mono ?_;rintro e w8 ⟨A8,c8,rfl,o8,b8⟩;have O8:=zH ((ae o8 l7).alloc (.cells #[.slice A8 (aG s).length c8] 24));have B8:=zH ((B7.trans (b8.mono l7)).alloc (Nat.le_trans l7 b8.size) (.cells #[.slice A8 (aG s).length c8] 24))
    obtain ⟨hlw,vs,hv,hiw⟩:=(W7.below b8).alloc (.cells #[.slice A8 (aG s).length c8] 24);have HV:=zH hv;have HI:=zH hiw;have HLW:=zH hlw;have l8:=B8.size;clear o8 b8 W7 B7 O7 X7 x0 x1 hlw hv hiw
    go_wp2_with (at_builtin;refine ah rfl (.tmp 45) (.tmp 49) 42 rfl Tryz.underlying42 tg hz1 zD rfl HV.out rfl (Rd.lit w8 24 #[.slice A8 (aG s).length c8] 1 1 rfl) zV zO zD l8 ?_;intro A9 c9 w9 o9 g9;have W9:=zH (OwnW.push (x:=aG s) (D:=A8) (d:=c8) HLW.out HV.out HI.out O8.out g9 o9);have B9:=zH (ag B8.out l8 HV.out zR g9))
    go_meet;exact ⟨A9,5,c9,rfl,zO,by rw [HE.out];exact W9.out,B9.out⟩
 case rest =>
  obtain ⟨A',M,c',rfl,hM,hW,hB⟩:=hcut;have WW:=zH hW;have BB:=zH hB;have lw:=hB.size;clear hW hB W6 B6 l6;obtain ⟨w9,rfl⟩:∃ x,x=wc:=⟨_,rfl⟩;have hM0:0 < M:=by
   have h1:=WW.out.1;have h2:=congrArg List.length HWS.out;rw [List.length_cons] at h2;omega
  obtain ⟨bq,oq,D0,d0,rfl,hb0,y0,o0⟩:=WW.at_ (k:=0) (x:=l) (by rw [<- HWS.out];rfl);have O0:=zH o0;have mI:(0:Int) < (M:Int):=zO;rw [Nat.add_zero] at y0;clear o0;go_wp2_with fail;go_loopg [10,56] M (fun g v10 i wr=>∃ (k:Nat) (A1:Option Addr) (c1:Nat) (b:List Gt),k+g=M/\i=.int .i64 (k:Nat)/\v10=.slice A1 b.length c1/\dy ((WS).drop k) b=F/\b.length<=107374182460/\wr.ownsRow w 39 4 (.slice A1 b.length c1) b.length (af b)/\OwnW wr w.heap.size (some ⟨bq,oq,none⟩) M c' WS/\Below w w wr)
  case atStart=>exact ⟨0,D0,d0,l,zO,rfl,rfl,HF.out,zO,O0.out,WW.out,BB.out⟩
  case round =>
   clear O0 HF WW BB y0;obtain ⟨k,A1,c1,b,hk,rfl,rfl,hF,hbl,hO,hW,hB⟩:=hrel;have HF:=zH hF;have O1:=zH hO;have W1:=zH hW;have B1:=zH hB;clear hF hO hW hB;by_cases hlt:k < M
   ·obtain ⟨x,hx⟩:=aV (l:=WS) (k:=k) (by rw [W1.out.1];exact hlt);obtain ⟨bb,off,D,d,hA0,hbl2,y0,ox⟩:=W1.at_ hx;obtain ⟨rfl,rfl⟩:bq=bb/\oq=off:=by injection hA0 with h;injection h with h1 h2;exact ⟨h1,h2⟩
    clear hA0;have OX:=zH ox;have NX:=zH (qi hx HF);have hxl:=HWL.out x (List.mem_of_getElem? hx);have kn:(k:Int) < (M:Int):=zO;clear hx ox;go_wp2_with fail;refine (gK D x.length d x _ (RdG.own OX) zO).mono ?_;rintro e w2 ⟨rfl,b2⟩;have O2:=zH (ab O1 b2);have W2:=zH (W1.below b2);have B2:=zH (B1.trans (b2.mono B1.size));have OX2:=zH (ab OX b2);have y2:=(b2.cell (p:=⟨bq,oq+k,none⟩) hbl2).trans y0;have hbl3:bq < w2.heap.size:=Nat.lt_of_lt_of_le hbl2 b2.size;clear b2 O1 W1 B1 OX y0;go_wp2_with fail;refine (gK A1 b.length c1 b _ (RdG.own O2) zO).mono ?_;rintro e w3 ⟨rfl,b3⟩;have O3:=zH (ab O2 b3);have W3:=zH (W2.below b3);have B3:=zH (B2.trans (b3.mono B2.size));have OX3:=zH (ab OX2 b3);have y3:=(b3.cell (p:=⟨bq,oq+k,none⟩) hbl3).trans y2;clear b3 O2 W2 B2 OX2 y2;by_cases hc:aR x < aR b
    ·have HN2:=zH (show dy ((WS).drop (k+1)) x=F by have:=NX.out;rwa [if_pos hc] at this);exact LI
    ·have HN2:=zH (show dy ((WS).drop (k+1)) b=F by have:=NX.out;rwa [if_neg hc] at this);exact LH
   ·exact LJ
def Gi (n:Nat) (s:df) (gs:List Gt):df:=(bH n gs s.1,s.2++gs)
theorem oK (n:Nat):∀ (a b:List Gt) (r:List Pq),bH n (a++b) r=bH n b (bH n a r)
 |[],b,r=>rfl
 |g :: a,b,r=>oK n a b _
theorem kP (n:Nat) (s:df) (a b:List Gt):Gi n (Gi n s a) b=Gi n s (a++b):=by
 unfold Gi;simp only [oK,List.append_assoc]
theorem qX (n:Nat) (s:df):Gi n s []=s:=by
 unfold Gi;rw [List.append_nil];rfl
theorem oL (n:Nat) (s:df) (k:Int) (a b:Nat):iK n s k a b=Gi n s [⟨k,a,b,0⟩]:=rfl
theorem EG (g:Gt):∀ (l:List Nat) (o:Pq),fT g ⟨0,0,0⟩ l o=o
 |[],o=>rfl
 |q :: r,o=>by
  rw [fT,EG g r];unfold dV aZ;simp
theorem EH (n:Nat):∀ l:List Gt,gj n l ⟨0,0,0⟩=⟨0,0,0⟩
 |[]=>rfl
 |g :: l=>by
  have e:eP n g ⟨0,0,0⟩=⟨0,0,0⟩:=EG g _ _;rw [gj,e,EH n l]
theorem jg (n:Nat) (gs:List Gt) (r:List Pq) (i:Nat):fF (bH n gs r) i=gj n gs (fF r i):=by
 unfold fF;rw [nr,List.getD_eq_getElem?_getD,List.getD_eq_getElem?_getD,List.getElem?_map];cases r[i]? with
 |none=>exact (EH n gs).symm
 |some x=>rfl
def StR (n i:Nat) (f:df->df) (F:Pq->List Gt):Prop:=∀ s,f s=Gi n s (F (fF s.1 i))
def Uh (n:Nat) (F G:Pq->List Gt) (a:Pq):List Gt:=F a++G (gj n (F a) a)
theorem StR.seq {n i:Nat} {f g:df->df} {F G:Pq->List Gt} (hf:StR n i f F) (hg:StR n i g G):StR n i (fun s=>g (f s)) (Uh n F G):=by
 intro s;simp only;rw [hg (f s),hf s,kP];show Gi n s (_++G (fF (bH n _ _) i))=_;rw [jg];rfl
def Ui (n:Nat) (F:Nat->Pq->List Gt):Nat->Nat->Pq->List Gt
 |_,0=>fun _=>[]
 |k,m+1=>Uh n (F k) (Ui n F (k+1) m)
theorem StR.loop {n i:Nat} {f:Nat->df->df} {F:Nat->Pq->List Gt} (h:∀ k,StR n i (f k) (F k)):∀ m k,StR n i (cm f k m) (Ui n F k m)
 |0,k=>fun s=>(qX n s).symm
 |m+1,k=>(h k).seq (StR.loop h m (k+1))
def LK (a:Pq):Nat->Nat->Nat
 |k,0=>k
 |k,m+1=>if aZ a.x k=true then k else LK a (k+1) m
theorem LM (r:List Pq) (q:Nat):∀ (m k:Nat),kZ r q k m=LK (fF r q) k m
 |0,k=>rfl
 |m+1,k=>by rw [kZ,LK,LM r q m (k+1)];rfl
def Pk (k:Int) (q:Nat):Gt:=⟨k,q,((0:Nat):Int),0⟩
def Wt (k:Int) (a b:Nat):Gt:=⟨k,a,b,0⟩
def F1 (k:Nat) (a:Pq):List Gt:=if (aZ a.x k && aZ a.z k)=true then [Pk 5 k] else if aZ a.z k=true then [Pk 4 k] else []
def F2 (q k:Nat) (a:Pq):List Gt:=if aZ a.x k=true then [Wt 9 q k] else []
def F3 (k:Nat) (a:Pq):List Gt:=if (aZ a.x k && aZ a.z k)=true then [Pk 5 k,Pk 4 k] else if aZ a.x k=true then [Pk 4 k] else []
def F4 (q k:Nat) (a:Pq):List Gt:=if aZ a.z k=true then [Wt 9 k q] else []
def Fs (n q:Nat) (a:Pq):List Gt:=if LK a q (n - 1 - q)=q then [] else [Wt 11 q (LK a q (n - 1 - q))]
def Fh (q:Nat) (a:Pq):List Gt:=if aZ a.x q=true then [Pk 4 q,Pk 5 q,Pk 4 q] else []
def Fp (k:Int) (q:Nat) (a:Pq):List Gt:=if a.p=2 then [Pk k q] else []
theorem pJ {p:Prop} (h:p:=by
  split
  ·rfl
  ·exact (qX n s).symm):p:=h
theorem Wu (n q k:Nat):StR n q (f1 n q k) (F1 k):=by
 intro s;unfold f1 F1 xB zB;split
 ·rfl
 ·exact pJ
theorem Wv (n q k:Nat):StR n q (f2 n q k) (F2 q k):=by
 intro s;unfold f2 F2 xB;exact pJ
theorem Ww (n q k:Nat):StR n (q+n) (f3 n q k) (F3 k):=by
 intro s;unfold f3 F3 xB zB;split
 ·rw [oL,oL,kP];rfl
 ·exact pJ
theorem Wx (n q k:Nat):StR n (q+n) (f4 n q k) (F4 q k):=by
 intro s;unfold f4 F4 zB;exact pJ
theorem Wy (n q:Nat):StR n q (Ma n q) (Fs n q):=by
 intro s;unfold Ma Fs;rw [LM];split
 ·exact (qX n s).symm
 ·rfl
theorem Wz (n q:Nat):StR n (q+n) (hH n q) (Fh q):=by
 intro s;unfold hH Fh xB;split
 ·rw [oL,oL,oL,kP,kP];rfl
 ·exact (qX n s).symm
theorem WB (n q:Nat):StR n q (pZ n q) (Fp 3 q):=by
 intro s;unfold pZ Fp;exact pJ
theorem WC (n q:Nat):StR n (q+n) (pX n q) (Fp 1 q):=by
 intro s;unfold pX Fp;exact pJ
def Gj (n q:Nat):Pq->List Gt:=Uh n (Uh n (Ui n F1 q (n - q)) (Fs n q)) (Ui n (F2 q) (q+1) (n - (q+1)))
theorem EI (n q:Nat):StR n q (fm n q) (Gj n q):=((StR.loop (Wu n q) _ _).seq (Wy n q)).seq (StR.loop (Wv n q) _ _)
def VO (n q:Nat):Pq->List Gt:=Uh n (Uh n (Ui n F3 (q+1) (n - (q+1))) (Ui n (F4 q) (q+1) (n - (q+1)))) (Fh q)
theorem VP (n q:Nat):StR n (q+n) (fun s=>hH n q (cm (f4 n q) (q+1) (n - (q+1)) (cm (f3 n q) (q+1) (n - (q+1)) s))) (VO n q):=((StR.loop (Ww n q) _ _).seq (StR.loop (Wx n q) _ _)).seq (Wz n q)
def LN (n q:Nat) (a b:Pq):List Gt :=
 let l:=VO n q b
 let m:=l++Fp 3 q (gj n l a)
 m++Fp 1 q (gj n m b)
theorem Af (n q:Nat) (s:df):fe n q s=Gi n s (LN n q (fF s.1 q) (fF s.1 (q+n))):=by
 unfold fe;have e:=VP n q s;simp only at e;rw [e,WB n q (Gi n s _),kP,WC n q (Gi n s _),kP];unfold LN;simp only [Gi,jg]
def TU (q:Nat) (a:Pq):Bool:=(List.range q).all fun j=>il (xQ j) a && il a (zQ j)
def TV (n q:Nat) (l:List Gt):Bool:=(List.range q).all fun j=>decide (gj n l (xQ j)=xQ j/\gj n l (zQ j)=zQ j)
def tG (n q:Nat):Bool:=(Fl n).all fun v=>(List.range 4).all fun p=>!(kW ⟨v.1,v.2,p⟩ && (TU q ⟨v.1,v.2,p⟩ && !(decide (v.1=0/\v.2=0)))) ||
 (TV n q (Gj n q ⟨v.1,v.2,p⟩) && decide (gj n (Gj n q ⟨v.1,v.2,p⟩) ⟨v.1,v.2,p⟩=⟨2 ^ q,0,0⟩\/gj n (Gj n q ⟨v.1,v.2,p⟩) ⟨v.1,v.2,p⟩=⟨2 ^ q,0,2⟩))
def qm (n q:Nat):Bool:=([0,2]:List Nat).all fun d=>(Fl n).all fun v=>(List.range 4).all fun p=>!(kW ⟨v.1,v.2,p⟩ && (TU q ⟨v.1,v.2,p⟩ && !(il ⟨2 ^ q,0,d⟩ ⟨v.1,v.2,p⟩))) ||
 (TV n q (LN n q ⟨2 ^ q,0,d⟩ ⟨v.1,v.2,p⟩) && decide (gj n (LN n q ⟨2 ^ q,0,d⟩ ⟨v.1,v.2,p⟩) ⟨2 ^ q,0,d⟩=xQ q/\gj n (LN n q ⟨2 ^ q,0,d⟩ ⟨v.1,v.2,p⟩) ⟨v.1,v.2,p⟩=zQ q))
theorem Pm:(List.range 4).all (tG 4)=true:=by decide +kernel
theorem LP:qm 4 0=true:=by decide +kernel
theorem Pn:([1,2,3]:List Nat).all (qm 4)=true:=by decide +kernel
theorem VQ:((List.range 3).all (tG 3) && (List.range 3).all (qm 3))=true:=by decide +kernel
theorem TX:((List.range 2).all (tG 2) && (List.range 2).all (qm 2))=true:=by decide +kernel
theorem TY:((List.range 1).all (tG 1) && (List.range 1).all (qm 1))=true:=by decide +kernel
theorem LQ {n q:Nat} (h:1<=n/\n<=4) (hq:q < n):tG n q=true/\qm n q=true:=by
 have ap:∀ m:Nat,((List.range m).all (tG m) && (List.range m).all (qm m))=true->∀ q,q < m->tG m q=true/\qm m q=true:=fun m h q hq=>by
  rw [Bool.and_eq_true,List.all_eq_true,List.all_eq_true] at h;exact ⟨h.1 q (List.mem_range.2 hq),h.2 q (List.mem_range.2 hq)⟩
 obtain rfl | rfl | rfl | rfl:n=1\/n=2\/n=3\/n=4:=zO
 ·exact ap 1 TY q hq
 ·exact ap 2 TX q hq
 ·exact ap 3 VQ q hq
 ·refine ⟨List.all_eq_true.1 Pm q (List.mem_range.2 hq),?_⟩;by_cases h0:q=0
  ·subst h0;exact LP
  ·exact List.all_eq_true.1 Pn q zJ
theorem iv {n:Nat} {r:List Pq} (h:r.length=2 * n) {i:Nat} (hi:i < 2 * n):r[i]? = some (fF r i):=by
 unfold fF;rw [List.getD_eq_getElem?_getD,List.getElem?_eq_getElem zO];rfl
theorem LR {n:Nat} {r:List Pq} (h:ed n r) {i:Nat} (hi:i < 2 * n):ci n (fF r i)=true/\kW (fF r i)=true:=h.2.1 _ (List.mem_of_getElem? (iv h.1 hi))
theorem LS (a b:Pq):il a b=il b a:=by rw [vD,vD,Dp]
def oM (n q:Nat) (r:List Pq):Prop:=∀ j,j < q->fF r j=xQ j/\fF r (j+n)=zQ j
theorem LT {n q i:Nat} {r:List Pq} (h:ed n r) (hd:oM n q r) (hq:q<=n) (hi:i < 2 * n) (hi2:q<=i/\(i < n\/q+n<=i)):TU q (fF r i)=true:=by
 refine List.all_eq_true.2 fun j hj=>?_
 have hj:=List.mem_range.1 hj;obtain ⟨d1,d2⟩:=hd j hj;have e1:=h.2.2 j i _ _ zO (iv h.1 zO) (iv h.1 hi);rw [d1,show decide (i=j+n)=false by simp;omega] at e1;rw [Bool.and_eq_true];refine ⟨e1,?_⟩;by_cases hlt:i < n
 ·have e2:=h.2.2 i (j+n) _ _ zO (iv h.1 hi) (iv h.1 zO);rw [d2,show decide (j+n=i+n)=false by simp;omega] at e2;exact e2
 ·have e2:=h.2.2 (j+n) i _ _ zO (iv h.1 zO) (iv h.1 hi);rw [d2,show decide (i=j+n+n)=false by simp;omega] at e2;rw [LS];exact e2
theorem LU (a:Pq):(⟨a.x,a.z,a.p⟩:Pq)=a:=rfl
theorem Ag {n q:Nat} {r:List Pq} {l:List Gt} (hd:oM n q r) (h:TV n q l=true):oM n q (bH n l r):=by
 intro j hj;have:=of_decide_eq_true (List.all_eq_true.1 h j (List.mem_range.2 hj));rw [jg,jg,(hd j hj).1,(hd j hj).2];exact this
theorem Gk {n q:Nat} {s:df} (hn:1<=n/\n<=4) (hq:q < n) (hs:kD n s) (hd:oM n q s.1):oM n (q+1) (fe n q (fm n q s)).1:=by
 obtain ⟨c1,c2⟩:=LQ hn hq;have hs1:=pm hn hq hs;obtain ⟨a,ha⟩:∃ a,fF s.1 q=a:=⟨_,rfl⟩;obtain ⟨o1,o2⟩:=LR hs.1 (i:=q) zO;have hl:=LT hs.1 hd zO (i:=q) zO ⟨zR,.inl hq⟩;have hne:¬ (a.x=0/\a.z=0):=by
  intro e;have e2:=hs.1.2.2 q (q+n) _ _ zO (iv hs.1.1 zO) (iv hs.1.1 zO);rw [ha,show decide (q+n=q+n)=true by simp] at e2;unfold il at e2;rw [e.1,e.2] at e2;simp [dt] at e2
 rw [ha] at o1 o2 hl;obtain ⟨x1,x2,x3⟩:=okQn_iff.1 o1;have k1:=List.all_eq_true.1 (List.all_eq_true.1 c1 (a.x,a.z) (j5 ⟨x1,x2⟩)) a.p (List.mem_range.2 x3);simp only [LU,o2,hl,hne,decide_false,Bool.not_false,Bool.and_self,Bool.not_true,Bool.false_or,Bool.and_eq_true,decide_eq_true_eq] at k1;have f1:=EI n q s;rw [ha] at f1;have hd1:oM n q (fm n q s).1:=by rw [f1];exact Ag hd k1.1
 have hr1:fF (fm n q s).1 q=gj n (Gj n q a) a:=by rw [f1];show fF (bH n _ _) q=_;rw [jg,ha]
 generalize fm n q s=s1 at hs1 hd1 hr1 f1;obtain ⟨b,hb⟩:∃ b,fF s1.1 (q+n)=b:=⟨_,rfl⟩;obtain ⟨p1,p2⟩:=LR hs1.1 (i:=q+n) zO;have hlb:=LT hs1.1 hd1 zO (i:=q+n) zO ⟨zO,.inr zR⟩;have hac:=hs1.1.2.2 q (q+n) _ _ zO (iv hs1.1.1 zO) (iv hs1.1.1 zO);rw [show decide (q+n=q+n)=true by simp] at hac;rw [hb] at p1 p2 hlb hac;obtain ⟨y1,y2,y3⟩:=okQn_iff.1 p1;obtain ⟨d,hd2,hrd⟩:∃ d,d ∈ ([0,2]:List Nat)/\fF s1.1 q=⟨2 ^ q,0,d⟩:=by
  rw [hr1];rcases k1.2 with h | h
  ·exact ⟨0,zI,h⟩
  ·exact ⟨2,zI,h⟩
 rw [hrd] at hac;have k2:=List.all_eq_true.1 (List.all_eq_true.1 (List.all_eq_true.1 c2 d hd2) (b.x,b.z) (j5 ⟨y1,y2⟩)) b.p (List.mem_range.2 y3);simp only [LU,p2,hlb,hac,Bool.not_true,Bool.not_false,Bool.and_self,Bool.false_or,Bool.and_eq_true,decide_eq_true_eq] at k2;have f2:=Af n q s1;rw [hrd,hb] at f2;rw [f2];intro j hj;by_cases hjq:j=q
 ·subst hjq;show fF (bH n _ _) j=_/\fF (bH n _ _) (j+n)=_;rw [jg,jg,hrd,hb];exact k2.2
 ·exact Ag hd1 k2.1 j zO
theorem Ah {n:Nat} (hn:1<=n/\n<=4):∀ (m q:Nat) (s:df),q+m=n->kD n s->oM n q s.1->oM n n (nj n q m s).1
 |0,q,s,hq,_,hd=>by
  obtain rfl:q=n:=zO;exact hd
 |m+1,q,s,hq,hs,hd=>Ah hn m (q+1) _ zO (so hn zO (pm hn zO hs)) (Gk hn zO hs hd)
theorem EJ {n:Nat} {r:List Pq}:∀ (m q:Nat) (s:df),s.1=bH n s.2 r->(nj n q m s).1=bH n (nj n q m s).2 r
 |0,q,s,h=>h
 |m+1,q,s,h=>by
  rw [nj];refine EJ m (q+1) _ ?_;rw [Af,EI n q s,kP];generalize Gj n q (fF s.1 q)++_=L;show bH n L s.1=bH n (s.2++L) r;rw [oK,<- h]
theorem Pp {n:Nat} {r:List Pq} (h1:r.length=2 * n) (h:oM n n r):r=ch n:=by
 refine List.ext_getElem? fun i=>?_
 by_cases hi:i < 2 * n
 ·rw [iv h1 hi];unfold ch;by_cases hin:i < n
  ·rw [(h i hin).1,List.getElem?_append_left (by simp;exact hin),List.getElem?_map,List.getElem?_range hin];rfl
  ·have:=(h (i - n) zO).2;rw [show i - n+n=i by omega] at this;rw [this,List.getElem?_append_right zJ,List.getElem?_map];simp only [List.length_map,List.length_range];rw [List.getElem?_range zO];rfl
 ·rw [List.getElem?_eq_none zO,List.getElem?_eq_none (by unfold ch;simp;omega)]
theorem Pr {n:Nat} {r:List Pq} (hn:1<=n/\n<=4) (h:ed n r):bH n (lc n r) r=ch n/\SZ n (lc n r):=by
 have hs:kD n (r,[]):=⟨h,zI⟩;have hc:=Dy hn h;have hd:=Ah hn n 0 (r,[]) zO hs (fun j hj=>by omega);have hr:=EJ (n:=n) (r:=r) n 0 (r,[]) rfl;rw [hr] at hd;exact ⟨Pp (ku _ r hc h).1 hd,hc⟩
theorem Ps (l:List Gt):dk l=iL l:=by
 unfold dk iL;rw [List.map_reverse];congr 1
theorem VR (l:List Gt):iL (iL l)=l:=by
 unfold iL;rw [List.map_reverse,List.reverse_reverse,List.map_map]
 conv=>rhs;rw [<- List.map_id l]
 exact List.map_congr_left fun g _=>KW g
theorem LV (l:List Gt):cP (iL l)=cP l:=by
 unfold iL
 induction l with
 |nil=>rfl
 |cons g r ih =>
  rw [List.map_cons,List.reverse_cons,dE,ih];show cP r+(hc (iD g)+0)=hc g+cP r;rw [Cv];omega
theorem Pt {n:Nat} {l:List Gt} (hn:1<=n/\n<=4) (hl:SZ n l):je n (ir l n)/\Eqv n l (ir l n)/\c3 (ir l n)=0:=by
 have h1:=ku l (ch n) hl (te hn);obtain ⟨r1,r2⟩:=Pr hn h1;obtain ⟨R,hR⟩:∃ R,lc n (bH n l (ch n))=R:=⟨_,rfl⟩;have hs:ir l n=iL R:=by unfold ir;rw [Ps,hR]
 rw [hR] at r1 r2;have oR:je n R:=fun g hg=>(r2 g hg).1
 have oi:=Ej oR;have ol:je n l:=fun g hg=>(hl g hg).1
 rw [hs];refine ⟨oi,?_,?_⟩
 ·obtain ⟨k,_,hk⟩:=F0 (l:=l++R) hn (fun g hg=>by
   rcases List.mem_append.1 hg with h | h
   ·exact hl g h
   ·exact r2 g h) (by rw [oK];exact r1)
  have e1:Eqv n (l++R) []:=⟨k,fun V hV=>by
   show up 0 (aX (l++R) V)=cB (fw k) (up (cP (l++R)) V);rw [BU,hk V hV]⟩
  have e2:Eqv n (R++iL R) []:=by
   refine RlN.eqv (k:=2 * cP R) ⟨by rw [dE,LV];show _=0+_;omega,fun V hV=>?_⟩;rw [cK];have:=wT (iL R) oi hV;rw [VR,LV] at this;exact this
  have a1:=e2.symm.mid (p:=l) (q:=[]) ol (jh n) (bE oR oi) (jh n);have a2:=e1.mid (p:=[]) (q:=iL R) (jh n) (bE ol oR) (jh n) oi;simp only [List.append_nil,List.nil_append,List.append_assoc] at a1 a2;exact a1.trans a2
 ·have:∀ g ∈ iL R,g.k ≠ 12:=fun g hg=>by
   obtain ⟨x,hx,rfl⟩:=List.mem_map.1 (List.mem_reverse.1 hg);have:=(r2 x hx).2;unfold bh at this;simp only [Bool.and_eq_true,decide_eq_true_eq,Bool.not_eq_true',beq_eq_false_iff_ne] at this;unfold iD;simp only
   (repeat' split)<;>omega
  generalize iL R=L at this
  induction L with
  |nil=>rfl
  |cons g r ih =>
   show (if g.k=12 then 1 else 0)+c3 r=0;rw [if_neg (this g zI),ih fun x hx=>this x (by simp [hx])]
where
 jh (n:Nat):je n []:=fun _ hx=>by simp at hx
end Go.Proofs.YtmenmibfkojnoaaGreat
