/- Contract of ShortenRuns (impl). -/
import Derived.Test.YtmenmibfkojnoaaGreatY50
set_option maxHeartbeats 16000000
set_option maxRecDepth 100000
namespace Go.Proofs.YtmenmibfkojnoaaGreat
open Go.RowKit
set_option linter.unusedVariables false
theorem LB {p:Prop} (h:p:=by
  have hlk:k < l.length:=by rw [HN.out];exact hlt
  rw [ax hlk] at hd;injection hd with hd _;rw [List.getElem?_eq_getElem hlk,hd]):p:=h
theorem Gd (n:Int) (m c:Nat) (A:Option Addr) (l:List Gt) (w:World) (hr:RdG w A m l) (hm:m<=1073741824) :
  Calls Tryz.prog 23 #[.slice A m c,n] w (jl 39 4 (af (aO l n)) (aO l n).length w):=by
 have hz4:(Value.agg #[(0:Int),(0:Int),(0:Int),(0:Int)]).cells.size=4:=rfl;have HW:=zH hr;have HN:=zH hr.1;obtain ⟨S,hS⟩:∃ S,gG l Al=S:=⟨_,rfl⟩;have HS0:=zH (show gG (l.drop 0) Al=S from hS);have HSS:=zH hS;clear hr hS;go_enter Tryz.func23,Tryz.ntmps23;go_upto_block 0 with fail
 go_wp2_with fail;go_loopg [17] m (fun g i wr=>∃ (k:Nat),k+g=m/\i=.int .i64 (k:Nat)/\jP (l.take k) n=true/\Below w w wr)
 case atStart=>exact ⟨0,zO,rfl,rfl,zW⟩
 case round =>
  obtain ⟨k,hk,rfl,hal,hB⟩:=hrel;have HAL:=zH hal;have HB:=zH hB;have lw:=hB.size;clear hal hB;by_cases hlt:k < m
  ·obtain ⟨b,off,g,rfl,hbl,hd,d0,d1,d2,d3⟩:=(HW.below HB.out).at_ hlt;have hgk:l[k]? = some g:=by
    exact LB
   have HGK:=zH hgk;have kn:(k:Int) < (m:Int):=zO;have GA:=zH (Bx.new wr 39 #[g.k,g.a,g.b,g.c]);have BA:=zH (HB.alloc lw g);obtain ⟨g0,g1',g2,g3,_⟩:=GA.four;clear hd hgk;go_wp2_with fail;refine (bZ _ _ _ _ _ _).mono ?_;rintro e w1 ⟨rfl,b1⟩;have B1:=zH (BA.trans (b1.mono BA.size));have l1:=B1.size;clear b1 GA BA g0 g1' g2 g3 d0 d1 d2 d3;cases hv:fJ g.k g.a g.b g.c n
   ·have HE:=zH (zX (List.mem_of_getElem? HGK) hv);clear hv;go_wp2_with fail;refine (dB _ m c l _ (HW.below B1) zO).mono ?_;rintro e w4 ⟨A4,c4,rfl,o4,b4⟩;have O4:=zH o4;have B4:=zH (B1.trans (b4.mono l1));clear o4 b4;go_wp2_with fail;go_ret;rw [HE.out];exact ⟨A4,c4,by rw [HN.out];rfl,by rw [HN.out];exact ae O4.out l1,B4.out⟩
   ·have HAL2:=zH (nv HGK hv HAL);clear hv;go_wp2_with fail;go_roundg (gk - 1)
    all_goals first
     |omega
     |exact ⟨k+1,zO,by go_num,HAL2.out,B1.out⟩
  ·obtain rfl:k=m:=zO;have hall:jP l n=true:=by have:=HAL.out;rwa [List.take_of_length_le (by rw [HN.out];exact zR)] at this
   have HALL:=zH hall;obtain ⟨wl,rfl⟩:∃ x,x=wr:=⟨_,rfl⟩;have hmf:∀ (fn:Fn) (first cap:Array Value) (w:World),(Instr.makeFunc fn first cap).run Tryz.prog w=.ok (.func fn first cap) w:=fun _ _ _ _=>rfl
   clear HAL hall;go_upto_region 10 with fail
   have S0:=zH (show SRI w.heap.size (wl.heap.size+1+1) (wl.heap.size+1) Al (.slice (some ⟨wl.heap.size,0,none⟩) 0 0) (((wl.alloc (.cells #[] 39)).alloc (.cells #[.slice (some ⟨wl.heap.size,0,none⟩) 0 0] 24)).alloc (.cells #[.slice none 0 0,.slice none 0 0,.slice none 0 0,.slice none 0 0] 56)) from
    ⟨SR.start (w:=w) (Bx.new' zI) (((World.ownsRow_lit wl #[] 0 lw zM rfl).alloc _).alloc _),(Bx.new' zI).alloc _⟩)
   have B0:=zH (show Below w w (((wl.alloc (.cells #[] 39)).alloc (.cells #[.slice (some ⟨wl.heap.size,0,none⟩) 0 0] 24)).alloc (.cells #[.slice none 0 0,.slice none 0 0,.slice none 0 0,.slice none 0 0] 56)) from ((HB.alloc lw _).alloc zJ _).alloc zJ _);obtain ⟨wz,hwz⟩:∃ x,((wl.alloc (.cells #[] 39)).alloc (.cells #[.slice (some ⟨wl.heap.size,0,none⟩) 0 0] 24)).alloc (.cells #[.slice none 0 0,.slice none 0 0,.slice none 0 0,.slice none 0 0] 56)=x:=⟨_,rfl⟩;rw [hwz] at S0 B0 ⊢;clear hwz;obtain ⟨P,hP⟩:∃ P,wl.heap.size+1+1=P:=⟨_,rfl⟩;rw [hP] at S0 ⊢;obtain ⟨Q,hQ⟩:∃ Q,wl.heap.size+1=Q:=⟨_,rfl⟩;rw [hQ] at S0 ⊢;have hPQ:P ≠ Q:=zO;have hRP:w.heap.size<=P:=zO;have hRQ:w.heap.size<=Q:=zO;obtain ⟨v00,hv00⟩:∃ v:Value,.slice (some ⟨wl.heap.size,0,none⟩) 0 0=v:=⟨_,rfl⟩;rw [hv00] at S0;clear hP hQ HB lw hv00 hmf;obtain ⟨m,rfl⟩:∃ m,m=k:=⟨_,rfl⟩;go_wp2_with fail
   go_loopg [33] m (fun g i wr=>∃ (k:Nat) (s:iw) (vo:Value),k+g=m/\i=.int .i64 (k:Nat)/\gG (l.drop k) s=S/\fH s/\lf s<=100 * k/\SRI w.heap.size P Q s vo wr/\Below w w wr)
   case atStart=>exact ⟨0,Al,v00,zO,rfl,HS0.out,s0R_ok.1,Nat.le_of_eq s0R_ok.2,S0.out,B0.out⟩
   case round =>
    clear S0 B0 HS0;obtain ⟨k,s,vo,hk,rfl,hS,hok,hwt,hSR,hB⟩:=hrel;have HS:=zH hS;have HOK:=zH hok;have HSR:=zH hSR;have HB:=zH hB;have HWT:=zH hwt;have lw:=hB.size;obtain ⟨A0,c0,rfl,o0⟩:=hSR.1.out;clear hS hok hSR hB hwt o0;by_cases hlt:k < m
    ·obtain ⟨b,off,g,rfl,hbl,hd,d0,d1,d2,d3⟩:=(HW.below HB.out).at_ hlt;have hgk:l[k]? = some g:=by
      exact LB
     have HGK:=zH hgk;have kn:(k:Int) < (m:Int):=zO;have hv:fJ g.k g.a g.b g.c n=true:=List.all_eq_true.1 HALL.out g (List.mem_of_getElem? hgk);have HSH:=zH (tA hv);have NX:=zH (tB hgk HS);have GA:=zH (Bx.new wr 39 #[g.k,g.a,g.b,g.c]);have SA:=zH (HSR.alloc g);have BA:=zH (HB.alloc lw g);obtain ⟨G,hG⟩:∃ G,G=wr.heap.size:=⟨_,rfl⟩;have BR1:=zH (show Below wr wr (wr.alloc g) from (zW).alloc zR _);go_upto_region 13 with fail
     obtain ⟨w1,hw1⟩:∃ x,wr.alloc g=x:=⟨_,rfl⟩;rw [hw1] at GA SA BA BR1 ⊢;clear hw1;rw [<- hG] at GA ⊢;have l1:=BA.size;have hGP:P ≠ G:=by have:=HSR.out.1.lt;omega
     have hGQ:Q ≠ G:=by have:=HSR.out.2.lt;omega
     have HOF:=zH (show ∀ x v n (xs:List Value),wr.ownsRow w 39 4 v n xs->v.ownBlock=some x->x < G from fun x v n xs h e=>by have:=(h.lt x e).2;omega);clear hd hgk hv d0 d1 d2 d3 hG;obtain ⟨g0,g1',g2,g3,_⟩:=GA.four;go_wp2_with fail;refine (bO _ _).mono ?_;rintro e w2 ⟨rfl,rfl⟩;by_cases ha:aA g.k=1
     ·obtain ⟨q,hq,hg,hk8⟩:=HSH.out.1 ha;obtain ⟨kk,rfl⟩:∃ kk,g=⟨kk,(q:Nat),0,0⟩:=⟨_,hg⟩;have HRG:=zH (Lz (s:=s) (q:=q) ha rfl);have HOK2:=zH (pE (s:=s) (g:=⟨kk,(q:Nat),0,0⟩) HOK hq ⟨rfl,hk8⟩);rw [HRG.out] at NX;obtain ⟨Aq,cq,y0w,_,oqw⟩:=HSR.out.1.run hq;have hfarq:some G ≠ (Value.slice Aq (s.2.getD q []).length cq).ownBlock:=fun e=>by have:=HOF.out G _ _ _ oqw e.symm;omega
      have y0:=(BR1.cell (p:=⟨P,q,none⟩) HSR.out.1.lt).trans y0w;have oq:=ab oqw BR1.out;have hln:100 * (s.2.getD q []).length<=100 * k:=Nat.le_trans (tx HOK.out.1 hq) HWT.out;obtain ⟨ln,hlnn⟩:∃ ln,(s.2.getD q []).length=ln:=⟨_,rfl⟩;have HLN:=zH hlnn;have qI:(q:Int) < 4:=zO;have q0:(0:Int)<=(q:Int):=zO;have ha1:(aA kk == 1)=true:=by simpa using ha
      rw [hlnn] at y0 hln hfarq;have Y0:=zH y0;have OQ2:=zH (show w1.ownsRow w 39 4 (.slice Aq ln cq) ln (af (s.2.getD q [])) by rw [<- hlnn];exact oq);have SG:=zH (SA.alloc (.cells #[kk,q,(0:Int),(0:Int)] 39)).drew;have YG:=zH (show (w1.alloc (.cells #[kk,q,(0:Int),(0:Int)] 39)).drew.cell? ⟨P,q,none⟩=some (.slice Aq ln cq) from (((Below.refl w1 w1).alloc zR _).drew.cell (p:=⟨P,q,none⟩) SA.out.1.lt).trans Y0.out);have OG:=zH (aq (OQ2.alloc (.cells #[kk,q,(0:Int),(0:Int)] 39)));have RG:=zH (Rd.lit w1 39 #[kk,q,(0:Int),(0:Int)] 1 4 rfl).drew;have BG:=zH (BA.alloc l1 (.cells #[kk,q,(0:Int),(0:Int)] 39)).drew;have hlt1:w.heap.size<=(w1.alloc (.cells #[kk,q,(0:Int),(0:Int)] 39)).drew.heap.size:=by simp;exact Nat.le_succ_of_le l1
      have y0d:w1.drew.cell? ⟨P,q,none⟩=some (.slice Aq ln cq):=Y0.out;obtain ⟨e0,e1,e2,e3,_⟩:=GA.drew.four;have yg:=YG.out;have FG:=zH (GA.alloc (.cells #[kk,q,(0:Int),(0:Int)] 39)).drew;obtain ⟨f0,f1,f2,f3,_⟩:=FG.four;clear hg hk8 ha oq hlnn y0w oqw;go_upto_region 14 with fail
      go_region_law
       (first
        |(refine pD zF (.tmp 46) (.tmp 48) 24 zF Tryz.underlying24 ak hz4 zD (base:=w.heap.size) zA OG.out zA RG.out zV zO zD hlt1 ?_;intro A5 c5 w5 o5 gr at5;have k5:=SG.out.1.keepP zD OG.out gr q;obtain ⟨x5,z5⟩:=k5;rw [YG.out] at x5;obtain ⟨h0,h1,h2,h3,_⟩:=(FG.grown gr hfarq).four;have S5:=zH (SG.out.1.pushOne zD (g:=⟨kk,(q:Nat),0,0⟩) hq HLN.out YG.out gr o5 at5);have Q5:=zH ((az OG.out gr SG.out.2 zD).far (p:=⟨P,q,none⟩) (fun e=>hPQ e.symm) (.slice A5 (ln+1) c5));have B5:=zH ((ag BG.out hlt1 OG.out zR gr).setCell (p:=⟨P,q,none⟩) hRP (.slice A5 (ln+1) c5))))
      all_goals go_wp2_with fail
      all_goals go_roundg (gk - 1)
      all_goals first
       |omega
       |exact ⟨k+1,_,_,zO,by go_num,NX.out,HOK2.out.1,by have:=HOK2.out.2;have:=HWT.out;omega,⟨S5.out,Q5.out⟩,B5.out⟩
     ·have ha1:(aA g.k == 1)=false:=by simpa using ha
      obtain ⟨a,haa⟩:∃ a,(aA g.k).toNat=a:=⟨_,rfl⟩;obtain ⟨zs,hzs⟩:∃ zs,ik g.k g.a g.b g.c=zs:=⟨_,rfl⟩;have ha4:a<=4:=by have:=ev g.k;omega
      have HQU:=zH (show tV g=zs.map Int.toNat by rw [Eu,hzs]);have HZB:=zH (show ∀ x ∈ zs,0<=x/\x < 4 by rw [<- hzs];exact HSH.out.2);have HA:=zH haa;have HZ:=zH hzs;obtain ⟨E,hE⟩:∃ E,ct s (tV g)=E:=⟨_,rfl⟩;have HRG:=zH (LA ha hE);rw [HRG.out] at NX;have HE0:=zH (show ct s ((tV g).drop 0)=E from hE);have HG8:=zH (show some G ≠ (Value.slice A0 s.1.length c0).ownBlock from fun e=>by
       obtain ⟨A',c',e',o'⟩:=HSR.out.1.out;injection e' with e1 _ e2
       subst e1 e2;have:=HOF.out G _ _ _ o' e.symm;omega)
      clear hE ha haa hzs;go_wp2_with fail;refine (Ly _ _ _ _ _).mono ?_;rw [HA.out,HZ.out];rintro e w2 ⟨A2,c2,rfl,rq,b2,hfr2⟩;have G2:=zH (GA.below b2);have S2:=zH (SA.below b2);have B2:=zH (BA.trans (b2.mono l1));have RQ:=zH rq;have l2:=B2.size;have hQ1:=zH (show ∀ b off,A2=some ⟨b,off,none⟩->b ≠ P/\b ≠ Q/\some b ≠ (Value.slice A0 s.1.length c0).ownBlock from fun b off e=>by
       have h2:=hfr2 b off e;refine ⟨by have:=SA.out.1.lt;omega,by have:=SA.out.2.lt;omega,fun e2=>?_⟩;obtain ⟨A',c',e',o'⟩:=SA.out.1.out;injection e' with e1 _ e3
       subst e1 e3;have h1:=(o'.lt _ e2.symm).2;omega)
      clear rq b2 hfr2 g0 g1' g2 g3 GA SA BA l1;obtain ⟨gq,rfl⟩:∃ q,q=gk:=⟨_,rfl⟩;obtain ⟨wo,rfl⟩:∃ x,x=wr:=⟨_,rfl⟩;obtain ⟨vo,hvo⟩:∃ v,Value.slice A0 s.1.length c0=v:=⟨_,rfl⟩;rw [hvo] at HG8 S2 hQ1;clear hvo;go_wp2_with fail;go_loopg [54] a (fun g' i wx=>∃ (j:Nat) (s':iw) (vo:Value),j+g'=a/\i=.int .i64 (j:Nat)/\ct s' ((tV g).drop j)=E/\fH s'/\lf s'<=100 * k/\SRI w.heap.size P Q s' vo wx/\Bx wx G 39 #[g.k,g.a,g.b,g.c]/\some G ≠ vo.ownBlock/\RdI wx A2 a zs/\(∀ b off,A2=some ⟨b,off,none⟩->b ≠ P/\b ≠ Q/\some b ≠ vo.ownBlock)/\Below w w wx)
      case atStart=>exact ⟨0,s,vo,zO,rfl,HE0.out,HOK.out,HWT.out,S2.out,G2.out,HG8.out,RQ.out,hQ1.out,B2.out⟩
      case round =>
       clear S2 G2 HG8 RQ hQ1 B2 HE0 l2 HSR HS HOK HWT HB HRG;obtain ⟨j,s',vo,hj,rfl,hE,hok,hwt,hSR,hG,hG8,hRQ,hQ1,hB⟩:=hrel;have HE:=zH hE;have HOK:=zH hok;have HWT:=zH hwt;have HSR:=zH hSR;have HG:=zH hG;have HG8:=zH hG8;have HRQ:=zH hRQ;have HQ1:=zH hQ1;have HB:=zH hB;have lx:=hB.size;clear hE hok hwt hSR hG hG8 hRQ hQ1 hB;by_cases hja:j < a
       ·obtain ⟨b4,f4,x,rfl,hb4,hd4,x0⟩:=HRQ.at_ hja;have hxj:zs[j]? = some x:=by
         have hlk:j < zs.length:=by rw [HRQ.out.1];exact hja
         rw [ax hlk] at hd4;injection hd4 with hd4 _;rw [List.getElem?_eq_getElem hlk,hd4]
        obtain ⟨hx0,hx4⟩:=HZB.out x (List.mem_of_getElem? hxj);obtain ⟨q,rfl⟩:∃ q:Nat,x=(q:Nat):=⟨x.toNat,zO⟩;have hq:q < 4:=zO;have HNX:=zH (jG (q:=q) (by rw [HQU.out,List.getElem?_map,hxj];rfl) HE.out);have HOK2:=zH (mg HOK hq);have hwtn:=HWT.out;have jaI:(j:Int) < (a:Int):=zO;clear hd4 hxj hx0 hx4
        go_wp2_with (go_at_call 46;refine (Ev w.heap.size P Q q s' vo _ hq HSR.out HOK.out zO hPQ hRP hRQ).mono ?_;rintro e w6 ⟨rfl,vo',hs6,hk6,hb6⟩)
        go_roundg (gk - 1)
        case measure=>omega
        case rel =>
         exact ⟨j+1,eV s' q,vo',zO,by go_num,HNX.out,HOK2.out.1,Nat.le_trans HOK2.out.2 hwtn,hs6,hk6.bx HG.out (fun e=>hGP e.symm) (fun e=>hGQ e.symm) HG8.out,hk6.far HG.lt HG8.out,⟨HRQ.out.1,hk6.rd HRQ.out.2 HQ1.out⟩,fun b off e=>⟨(HQ1.out b off e).1,(HQ1.out b off e).2.1,by injection e with e;injection e with e;subst e;exact hk6.far hb4 (HQ1.out _ _ rfl).2.2⟩,HB.trans hb6⟩
       ·obtain rfl:j=a:=zO;have HEE:=zH (kM (by rw [HQU.out,List.length_map,HRQ.out.1];exact zR) HE.out);obtain ⟨A5,c5,rfl,o5⟩:=HSR.out.1.out;obtain ⟨e0,e1,e2,e3,_⟩:=HG.four;obtain ⟨x0,x1⟩:=HSR.out.2.one;have SG:=zH (HSR.alloc g);have OG:=zH (o5.alloc g);have BG:=zH (HB.alloc lx g);have hs5:s'.1.length<=100 * k:=by have:=HWT.out;unfold lf at this;omega
        have HOK2:=zH (nu (g:=g) HOK);rw [<- HEE.out] at NX;clear HSR o5 HB
        go_wp2_with (at_builtin;refine jF rfl (.tmp 62) (.tmp 64) 24 rfl Tryz.underlying24 ak hz4 zD rfl OG.out rfl (Rd.lit wr 39 #[g.k,g.a,g.b,g.c] 1 4 rfl) zV zO zD zJ ?_;intro A7 c7 w7 o7 g7 at7;have S7:=zH (SG.pushOut hPQ (news:=[g]) rfl g7 (uX g ▸ o7) at7);have B7:=zH ((ag BG.out BG.size OG.out zR g7).setCell (p:=⟨Q,0,none⟩) hRQ (.slice A7 (s'.1.length+1) c7));obtain ⟨z0,z1⟩:=(SG.out.2.grown g7 (am OG.out SG.out.2 zD)).one)
        go_roundg (gq - 1)
        all_goals first
         |omega
         |exact ⟨k+1,(s'.1++[g],s'.2),_,zO,by go_num,NX.out,HOK2.out.1,by have:=HOK2.out.2;have:=HWT.out;omega,S7.out.1,B7.out⟩
    ·obtain rfl:k=m:=zO;have HSE:=zH (uW (by rw [HN.out];exact zR) HS.out);have HRES:=zH (show aO l n=(ct s [0,1,2,3]).1 by rw [qh HALL.out,HSE.out,HSS.out]);obtain ⟨F,hF⟩:∃ F,ct s [0,1,2,3]=F:=⟨_,rfl⟩;rw [hF] at HRES;have HF:=zH (show ct s (([0,1,2,3]:List Nat).drop 0)=F from hF);clear hF;obtain ⟨vo,hvo⟩:∃ v,Value.slice A0 s.1.length c0=v:=⟨_,rfl⟩;rw [hvo] at HSR;clear hvo;go_wp2_with fail;go_loopg [67] 4 (fun g i wx=>∃ (q:Nat) (e:iw) (vo:Value),q+g=4/\i=.int .i64 (q:Nat)/\ct e (([0,1,2,3]:List Nat).drop q)=F/\fH e/\lf e<=100 * k/\SRI w.heap.size P Q e vo wx/\Below w w wx)
     case atStart=>exact ⟨0,s,vo,zO,rfl,HF.out,HOK.out,HWT.out,HSR.out,HB.out⟩
     case round =>
      clear HF HSR HB HWT HS HOK;obtain ⟨q,e,vo,hq4,rfl,hE,hok,hwt,hSR,hB⟩:=hrel;have HE:=zH hE;have HOK:=zH hok;have HWT:=zH hwt;have HSR:=zH hSR;have HB:=zH hB;clear hE hok hwt hSR hB;by_cases hq:q < 4
      ·have hqq:([0,1,2,3]:List Nat)[q]? = some q:=by
        obtain rfl | rfl | rfl | rfl:q=0\/q=1\/q=2\/q=3:=zO
        all_goals rfl
       have HNX:=zH (jG hqq HE);have HOK2:=zH (mg HOK hq);have hwtn:=HWT.out;have qI:(q:Int) < 4:=zO;clear hqq
       go_wp2_with (go_at_call 46;refine (Ev w.heap.size P Q q e vo _ hq HSR.out HOK.out zO hPQ hRP hRQ).mono ?_;rintro e' w6 ⟨rfl,vo',hs6,hk6,hb6⟩)
       go_roundg (gk - 1)
       case measure=>omega
       case rel =>
        exact ⟨q+1,eV e q,vo',zO,by go_num,HNX.out,HOK2.out.1,Nat.le_trans HOK2.out.2 hwtn,hs6,HB.trans hb6⟩
      ·obtain rfl:q=4:=zO;have HEE:=zH (kM (Nat.le_refl 4) HE);obtain ⟨A5,c5,rfl,o5⟩:=HSR.out.1.out;have O5:=zH o5;obtain ⟨x0,x1⟩:=HSR.out.2.one;clear o5;go_wp2_with fail;go_ret;rw [HRES.out,<- HEE.out];exact ⟨A5,c5,rfl,O5,HB⟩
end Go.Proofs.YtmenmibfkojnoaaGreat
