/- Contracts of OptimizeGates (spec and imp. -/
import Derived.Test.YtmenmibfkojnoaaGreatY53
set_option maxHeartbeats 16000000
set_option maxRecDepth 100000
namespace Go.Proofs.YtmenmibfkojnoaaGreat
open Go.RowKit
set_option linter.unusedVariables false
theorem T7 {l:List Gt} {n:Int} {g:Gt} (hg:g ∈ l) (h:fJ g.k g.a g.b g.c n=false):qU l n=l:=by
 unfold qU pW;rw [if_neg];intro h2;rw [List.all_eq_true.1 h2 g hg] at h;cases h
theorem EO {l:List Gt} {n:Int} (h:pW l n=true):qU l n=jk n ((aR l).toNat+1) l:=if_pos h
theorem Gl {n:Int} {m:Nat} {x y F:List Gt} (e:iE x n=y) (h:aR x<=aR y) (hF:jk n (m+1) x=F):x=F:=by
 rw [jk,e,if_pos h] at hF;exact hF
theorem Py {n:Int} {m:Nat} {x y F:List Gt} (e:iE x n=y) (h:¬ aR x<=aR y) (hF:jk n (m+1) x=F):jk n m y=F:=by
 rw [jk,e,if_neg h] at hF;exact hF
theorem mi (x:List Gt):(x.length:Int)<=aR x:=by
 induction x with
 |nil=>simp [aR]
 |cons g r ih=>simp only [aR,List.length_cons];rcases fL g.k with ⟨_,h⟩ | ⟨_,h⟩ | ⟨_,h⟩<;>omega
theorem Aj (n:Int):∀ (m:Nat) (l:List Gt),((jk n m l).length:Int)<=aR l
 |0,l=>mi l
 |m+1,l=>by
  rw [jk];split
  ·exact mi l
  ·have h1:=Aj n m (iE l n);have h2:=(tE l n).2;omega
theorem Pz (l:List Gt) (n:Int):((qU l n).length:Int)<=aR l:=by
 unfold qU;split
 ·exact Aj n _ l
 ·exact mi l
theorem LZ {p:Prop} (h:p:=by
  rintro e w4 ⟨rfl,b6⟩;have O6:=zH (ab O3 b6);have O7:=zH (ab O5 b6);have B6:=zH (B5.trans (b6.mono B5.size));clear b6 O3 HR3 O5 B5;by_cases hcc:aR x<=aR nx
  ·have HE:=zH (show x=F from Gl HNX.out hcc HO.out);have hcb:decide (aR x<=aR nx)=true:=decide_eq_true hcc;have FIN:=zH (show jl 39 4 (af F) F.length w (.returned (.slice A3 j c3)) w4 from by
    rw [<- HE.out,HJ.out];exact ⟨A3,c3,rfl,O6.out,B6.out⟩)
   go_wp2_with fail;go_ret;exact FIN.out
  ·have hcb:decide (aR x<=aR nx)=false:=decide_eq_false hcc;have h1:=HC.out;have h2:=nR nx;obtain ⟨m',rfl⟩:∃ m',gk=m'+1:=⟨gk - 1,zO⟩;have FIN:=zH (show jk n (m'+1) nx=F from Py HNX.out hcc HO.out);have HL:=zH (show (aR nx).toNat<=m'/\aR nx<=1073741824 by have:=HX.out;omega);clear h1 h2;go_wp2_with fail;go_roundg m'
   all_goals first
    |omega
    |exact ⟨nx.length,nx,A4,c4,rfl,HL.out.1,HL.out.2,FIN.out,rfl,O7.out,B6.out⟩):p:=h
theorem L0 {p:Prop} (h:p:=by
  cases hv:fJ g.k g.a g.b g.c n
  ·have HE:=zH (T7 (List.mem_of_getElem? HGK) hv);clear hv;go_wp2_with fail;go_ret;rw [<- HF.out,HE.out,HN.out];exact ⟨A1,c1,rfl,O3,B3⟩
  ·have HA2:=zH (nv HGK hv HAL);clear hv;go_wp2_with fail;go_roundg (gk - 1)
   all_goals first
    |omega
    |exact ⟨k+1,zO,by go_num,HA2.out,O3.out,B3.out⟩):p:=h
theorem L4 {p:Prop} (h:p:=by
  have hlk:k < l.length:=by rw [HN.out];exact hlt
  rw [ax hlk] at hd;injection hd with hd _;rw [List.getElem?_eq_getElem hlk,hd]):p:=h
theorem VS (n:Int) (m c:Nat) (A:Option Addr) (l:List Gt) (w:World) (hr:RdG w A m l) (hm:m<=1048576) :
  Calls Tryz.prog 15 #[.slice A m c,n] w (jl 39 4 (af (qU l n)) (qU l n).length w):=by
 have hz4:(Value.agg #[(0:Int),(0:Int),(0:Int),(0:Int)]).cells.size=4:=rfl;have HW:=zH hr;have HN:=zH hr.1;have HC:=zH (show aR l<=1073741824 by have:=nR l;have:=hr.1;omega);obtain ⟨F,hF⟩:∃ F,qU l n=F:=⟨_,rfl⟩;have HF:=zH hF;rw [hF];clear hr hF;go_enter Tryz.func15,Tryz.ntmps15;have OWN0:=zH (World.ownsRow_lit w #[] 0 (size:=4) (e:=39) zR zM rfl)
 go_wp2_with (at_builtin;refine jv rfl (.tmp 8) (.tmp 9) 24 rfl Tryz.underlying24 ak rfl zD rfl OWN0.out rfl (HW.out.2.alloc _) aQ zO zD zI ?_;intro A1 c1 w1 o1 g1;have O1:=zH o1;have B1:Hid (Below w w w1):=zH (ag ((zW).alloc zR _) zI OWN0.out zR g1))
 clear OWN0 o1 g1;go_loopg [6] m (fun g i wr=>∃ (k:Nat),k+g=m/\i=.int .i64 (k:Nat)/\jP (l.take k) n=true/\wr.ownsRow w 39 4 (.slice A1 m c1) m (af l)/\Below w w wr)
 case atStart=>exact ⟨0,zO,rfl,rfl,O1.out,B1.out⟩
 case round =>
  clear O1 B1;obtain ⟨k,hk,rfl,hal,hO,hB⟩:=hrel;have HAL:=zH hal;have O1:=zH hO;have B1:=zH hB;have lw:=hB.size;clear hal hO hB;by_cases hlt:k < m
  ·obtain ⟨b,off,g,rfl,hbl,hd,d0,d1,d2,d3⟩:=(HW.below B1.out).at_ hlt;have hgk:l[k]? = some g:=by
    exact L4
   have HGK:=zH hgk;have kn:(k:Int) < (m:Int):=zO;clear hd hgk;go_wp2_with fail;refine (aY _ _ _ _ _ _).mono ?_;rintro e w1 ⟨rfl,b1⟩;have B3:=zH (B1.trans (b1.mono B1.size));have O3:=zH (ab O1 b1);have l1:=B3.size;clear b1 O1 B1 d0 d1 d2 d3;exact L0
  ·obtain rfl:k=m:=zO;have kn:¬ (k:Int) < (k:Int):=zO;have HK:=zH (EO (show pW l n=true by have:=HAL.out;rwa [List.take_of_length_le (by rw [HN.out];exact zR)] at this));obtain ⟨M,hM⟩:∃ M,(aR l).toNat=M:=⟨_,rfl⟩;have HM:=zH hM;have HO:=zH (show jk n (M+1) l=F by rw [<- hM,<- HK.out,HF.out]);clear hM HK HF;obtain ⟨wo,rfl⟩:∃ x,x=wr:=⟨_,rfl⟩;go_wp2_with fail;go_loopg [5] M (fun mm v wr=>∃ (j:Nat) (x:List Gt) (A3:Option Addr) (c3:Nat),x.length=j/\(aR x).toNat<=mm/\aR x<=1073741824/\jk n (mm+1) x=F/\v=.slice A3 j c3/\wr.ownsRow w 39 4 (.slice A3 j c3) j (af x)/\Below w w wr)
   case atStart=>exact ⟨k,l,A1,c1,HN.out,by rw [HM.out];exact zR,HC.out,HO.out,rfl,O1.out,B1.out⟩
   case round =>
    clear O1 B1 HO HM HC HN HW HAL;obtain ⟨j,x,A3,c3,hj,hc,hx,hO,rfl,ho,hB⟩:=hrel;have HJ:=zH hj;have HC:=zH hc;have HX:=zH hx;have HO:=zH hO;have O1:=zH ho;have B1:=zH hB;have hjl:j<=1073741824:=by have:=mi x;omega
    have HR:=zH (show RdG wr A3 j x by have h:=ho;rw [<- hj] at h ⊢;exact RdG.own h);have hnb:=tE x n;have hnl:(iE x n).length<=1073741824:=zO;have HNB:=zH hnb;clear hj hc hx hO ho hB hnb;go_wp2_with fail;refine (TQ n j c3 A3 x _ HR hjl).mono ?_;obtain ⟨nx,hnx⟩:∃ nx,iE x n=nx:=⟨_,rfl⟩;have HNX:=zH hnx;rw [hnx] at hnl HNB ⊢;clear hnx;rintro e w2 ⟨A4,c4,rfl,o4,b4⟩;have O2:=zH (ab O1 b4);have HR2:=zH (HR.below b4);have O4:=zH (ae o4 B1.size);have B4:=zH (B1.trans (b4.mono B1.size));clear o4 b4 O1 HR B1;go_wp2_with fail;refine (kt A4 nx.length c4 nx _ (RdG.own O4) zO).mono ?_;rintro e w3 ⟨rfl,b5⟩;have O3:=zH (ab O2 b5);have HR3:=zH (HR2.below b5);have O5:=zH (ab O4 b5);have B5:=zH (B4.trans (b5.mono B4.size));clear b5 O2 HR2 O4 B4;go_wp2_with fail;refine (kt A3 j c3 x _ HR3 zO).mono ?_;exact LZ
theorem VT (n:Int) (m c:Nat) (A:Option Addr) (l:List Gt) (w:World) (hr:RdG w A m l) (hm:m<=1048576) :
  Calls Tryz.prog 16 #[.slice A m c,n] w (jl 39 4 (af (qU l n)) (qU l n).length w):=by
 have hz4:(Value.agg #[(0:Int),(0:Int),(0:Int),(0:Int)]).cells.size=4:=rfl;have HW:=zH hr;have HN:=zH hr.1;have HC:=zH (show aR l<=1073741824 by have:=nR l;have:=hr.1;omega);obtain ⟨F,hF⟩:∃ F,qU l n=F:=⟨_,rfl⟩;have HF:=zH hF;rw [hF];clear hr hF;go_enter Tryz.func16,Tryz.ntmps16;go_wp2_with fail;refine (dB A m c l _ HW zO).mono ?_;rintro e w1 ⟨A1,c1,rfl,o1,b1⟩;have O1:=zH (show w1.ownsRow w 39 4 (.slice A1 m c1) m (af l) from o1);have B1:=zH b1;clear o1 b1;go_wp2_with fail;go_loopg [13] m (fun g i wr=>∃ (k:Nat),k+g=m/\i=.int .i64 (k:Nat)/\jP (l.take k) n=true/\wr.ownsRow w 39 4 (.slice A1 m c1) m (af l)/\Below w w wr)
 case atStart=>exact ⟨0,zO,rfl,rfl,O1.out,B1.out⟩
 case round =>
  clear O1 B1;obtain ⟨k,hk,rfl,hal,hO,hB⟩:=hrel;have HAL:=zH hal;have O1:=zH hO;have B1:=zH hB;have lw:=hB.size;clear hal hO hB;by_cases hlt:k < m
  ·obtain ⟨b,off,g,rfl,hbl,hd,d0,d1,d2,d3⟩:=(HW.below B1.out).at_ hlt;have hgk:l[k]? = some g:=by
    exact L4
   have HGK:=zH hgk;have kn:(k:Int) < (m:Int):=zO;have GA:=zH (Bx.new wr 39 #[g.k,g.a,g.b,g.c]);have O2:=zH (O1.alloc g);have B2:=zH (B1.alloc lw g);obtain ⟨g0,g1',g2,g3,_⟩:=GA.four;clear hd hgk;go_wp2_with fail;refine (bZ _ _ _ _ _ _).mono ?_;rintro e w1 ⟨rfl,b1⟩;have B3:=zH (B2.trans (b1.mono B2.size));have O3:=zH (ab O2 b1);have l1:=B3.size;clear b1 GA O1 O2 B1 B2 g0 g1' g2 g3 d0 d1 d2 d3;exact L0
  ·obtain rfl:k=m:=zO;have kn:¬ (k:Int) < (k:Int):=zO;have HK:=zH (EO (show pW l n=true by have:=HAL.out;rwa [List.take_of_length_le (by rw [HN.out];exact zR)] at this));obtain ⟨M,hM⟩:∃ M,(aR l).toNat=M:=⟨_,rfl⟩;have HM:=zH hM;have HO:=zH (show jk n (M+1) l=F by rw [<- hM,<- HK.out,HF.out]);clear hM HK HF;obtain ⟨wo,rfl⟩:∃ x,x=wr:=⟨_,rfl⟩;go_wp2_with fail;go_loopg [5] M (fun mm v wr=>∃ (j:Nat) (x:List Gt) (A3:Option Addr) (c3:Nat),x.length=j/\(aR x).toNat<=mm/\aR x<=1073741824/\jk n (mm+1) x=F/\v=.slice A3 j c3/\wr.ownsRow w 39 4 (.slice A3 j c3) j (af x)/\Below w w wr)
   case atStart=>exact ⟨k,l,A1,c1,HN.out,by rw [HM.out];exact zR,HC.out,HO.out,rfl,O1.out,B1.out⟩
   case round =>
    clear O1 B1 HO HM HC HN HW HAL;obtain ⟨j,x,A3,c3,hj,hc,hx,hO,rfl,ho,hB⟩:=hrel;have HJ:=zH hj;have HC:=zH hc;have HX:=zH hx;have HO:=zH hO;have O1:=zH ho;have B1:=zH hB;have hjl:j<=1073741824:=by have:=mi x;omega
    have HR:=zH (show RdG wr A3 j x by have h:=ho;rw [<- hj] at h ⊢;exact RdG.own h);have hnb:=tE x n;have hnl:(iE x n).length<=1073741824:=zO;have HNB:=zH hnb;clear hj hc hx hO ho hB hnb;go_wp2_with fail;refine (TS n j c3 A3 x _ HR hjl).mono ?_;obtain ⟨nx,hnx⟩:∃ nx,iE x n=nx:=⟨_,rfl⟩;have HNX:=zH hnx;rw [hnx] at hnl HNB ⊢;clear hnx;rintro e w2 ⟨A4,c4,rfl,o4,b4⟩;have O2:=zH (ab O1 b4);have HR2:=zH (HR.below b4);have O4:=zH (ae o4 B1.size);have B4:=zH (B1.trans (b4.mono B1.size));clear o4 b4 O1 HR B1;go_wp2_with fail;refine (gK A4 nx.length c4 nx _ (RdG.own O4) zO).mono ?_;rintro e w3 ⟨rfl,b5⟩;have O3:=zH (ab O2 b5);have HR3:=zH (HR2.below b5);have O5:=zH (ab O4 b5);have B5:=zH (B4.trans (b5.mono B4.size));clear b5 O2 HR2 O4 B4;go_wp2_with fail;refine (gK A3 j c3 x _ HR3 zO).mono ?_;exact LZ
end Go.Proofs.YtmenmibfkojnoaaGreat
