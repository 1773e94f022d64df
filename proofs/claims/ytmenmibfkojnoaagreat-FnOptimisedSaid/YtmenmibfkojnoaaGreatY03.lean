/- Contracts of IsValidGate (impl and spec). -/
import Derived.Test.YtmenmibfkojnoaaGreatY02
import Derived.Deep.QuietTactic
import Derived.BigQuiet
import Derived.Deep.DeepCutAuto
set_option maxHeartbeats 16000000
set_option maxRecDepth 100000
namespace Go.Proofs.YtmenmibfkojnoaaGreat
open Go.RowKit
def jL (ar m:Int) (i:Nat) (seen:List Int) (x:Int):Bool:=if (i:Int) < ar then (!ee x 0 m) || gH seen x else !(x == 0)
def tZ (ar m:Int):List Int->List Int->Bool
 |_,[]=>true
 |seen,x :: r=>if jL ar m seen.length seen x then false else tZ ar m (seen++[x]) r
def fJ (k a b c n:Int):Bool:=ee n 1 4 && (decide (0 < aA k) && tZ (aA k) (n - 1) [] [a,b,c])
theorem eO (x lo hi:Int):(ee x lo hi=true/\lo<=x/\x<=hi)\/(ee x lo hi=false/\(x < lo\/hi < x)):=by
 by_cases h1:lo<=x
 ·by_cases h2:x<=hi
  ·exact .inl ⟨bG h1 h2,h1,h2⟩
  ·exact .inr ⟨gw (.inr zO),.inr zO⟩
 ·exact .inr ⟨gw (.inl zO),.inl zO⟩
theorem Gx {p:Prop} (h:p:=by
  rcases Nat.lt_or_ge k zs.length with h | h
  ·exact h
  ·rw [List.drop_eq_nil_of_le h] at hd;cases hd):p:=h
theorem ro {zs:List Int} {k:Nat} {x:Int} (hd:zs.drop k=x :: zs.drop (k+1)):zs.take (k+1)=zs.take k++[x]:=by
 have hk:k < zs.length:=by
  exact Gx
 have:zs[k]? = some x:=by
  have:=congrArg (fun l=>l[0]?) hd;simpa using this
 rw [List.take_add_one,this];rfl
theorem xM {ar m:Int} {zs:List Int} {k:Nat} {x:Int} (hd:zs.drop k=x :: zs.drop (k+1)):tZ ar m (zs.take k) (zs.drop k)=if jL ar m k (zs.take k) x then false else tZ ar m (zs.take (k+1)) (zs.drop (k+1)):=by
 have hk:k < zs.length:=by
  exact Gx
 have hl:(zs.take k).length=k:=zJ;rw [hd,tZ,hl,ro hd]
theorem Gy (k a b c:Int) (j:Nat) (h:(j:Int)<=aA k):(ik k a b c).take j=[a,b,c].take j:=by
 unfold ik;rw [List.take_take,Nat.min_eq_left zO]
theorem Gz {p:Prop} (h:p:=by
  go_wp2_with fail;go_ret;refine ⟨aw ?_,bW b03 _⟩;rw [HC.out,<- HX.out,HS.out,HB.out,H1.out];simp):p:=h
theorem aY (k a b c n:Int) (w:World):Calls Tryz.prog 25 #[.agg #[k,a,b,c],n] w fun e w'=>e=.returned (.bool (fJ k a b c n))/\Below w w w':=by
 have hbd:=ev k;obtain ⟨ar,har⟩:∃ ar:Nat,aA k=ar:=⟨(aA k).toNat,zO⟩;have HAR:=zH har;have har4:ar<=3:=zO;have HT:Hid ((aA k).toNat=ar):=zH zO;obtain ⟨R,hR⟩:∃ R,tZ ar (wrap64 (n - 1)) [] [a,b,c]=R:=⟨_,rfl⟩;have HR:=zH hR;have HC:Hid (fJ k a b c n=(ee n 1 4 && (decide (0 < ar) && R))):=zH (by
  unfold fJ;cases hin:ee n 1 4
  ·simp
  ·have:1<=n/\n<=4:=by rcases eO n 1 4 with ⟨_,h⟩ | ⟨h,_⟩<;>simp_all
   have e1:wrap64 (n - 1)=n - 1:=by unfold wrap64;omega
   rw [<- hR,e1,har];simp)
 have X0:=zH (Bx.new w 39 #[k,a,b,c]);obtain ⟨zs,hz⟩:∃ zs:List Int,[a,b,c]=zs:=⟨_,rfl⟩;have hzl:zs.length=3:=by rw [<- hz];rfl
 have HZ:=zH hz;have HG:Hid (∀ j:Nat,j<=ar->(ik k a b c).take j=zs.take j):=zH (fun j hj=>by rw [<- hz];exact Gy k a b c j zO);rw [hz] at hR;clear har hbd hR hz;go_enter Tryz.func25,Tryz.ntmps25;go_wp2_with fail;refine (mM _ _ _ _ _).mono ?_;rintro e w1 ⟨A1,c1,rfl,r1,b1,hc1⟩;rw [HT.out] at r1 hc1 ⊢;have R1:=zH r1;have b01:=aD b1;have X1:=X0.below b1;obtain ⟨p0,p1,p2,p3,_⟩:=X1.four;clear r1 b1;go_wp2_with fail;have YZ:=zH (Bx.new w1 3 #[a,b,c]);have RZ:Hid (RdI (w1.alloc (.cells #[a,b,c] 3)) (some ⟨w1,0,none⟩) 3 zs):=zH (by
  rw [<- HZ.out];exact YZ.rdI (zs:=[a,b,c]) rfl)
 have RQ:=zH (R1.alloc (.cells #[a,b,c] 3));have b02:Below w w (w1.alloc (.cells #[a,b,c] 3)):=b01.alloc b01.size _;obtain ⟨wo,hwo⟩:∃ wo,wo=w1.alloc (.cells #[a,b,c] 3):=⟨_,rfl⟩;rw [<- hwo] at RZ RQ b02 ⊢;clear p0 p1 p2 p3 X1 b01 R1 YZ hwo;generalize w1.heap.size=gz at RZ ⊢;go_loopg [7] 3 (fun m i wr=>∃ (j:Nat),j+m=3/\i=.int .i64 j/\tZ ar (wrap64 (n - 1)) (zs.take j) (zs.drop j)=R/\Below wo wo wr)
 case atStart=>exact ⟨0,zO,rfl,by simpa [HZ.out] using HR.out,zW⟩
 case round =>
  obtain ⟨j,hj,rfl,hx,hb⟩:=hrel;have HX:=zH hx;clear hx;have b03:=aa b02 hb;by_cases hlt:j < 3
  ·obtain ⟨bb,off,x,hA,hB,hd,c0⟩:=(RZ.below hb).at_ hlt;injection hA with hA;injection hA with hA1 hA2 _;subst hA1 hA2
   rw [Nat.zero_add] at c0;have hi0:(0:Int)<=(j:Int):=zO;have hi1:(j:Int) < 3:=zO;have HS:=zH (xM (ar:=ar) (m:=wrap64 (n - 1)) hd);clear hd;by_cases hja:j < ar
   ·have RH:=zH ((RQ.below hb).pre (k:=j) zO);rw [HG.out j zO] at RH;have hi2:(j:Int)<=(c1:Int):=zO;have hg0:decide (ar<=j)=false:=zJ;have hg1:decide (j < ar)=true:=zJ;have HB:Hid (jL ar (wrap64 (n - 1)) j (zs.take j) x=((!ee x 0 (wrap64 (n - 1))) || gH (zs.take j) x)):=zH (by unfold jL;rw [if_pos zO]);cases h1:ee x 0 (wrap64 (n - 1))
    ·have H1:=zH h1;go_wp2_with fail;go_quiet ((go_at_call 50;exact eJ (el _ _ _ _)))
     exact Gz
    ·have H1:=zH h1;cases h2:gH (zs.take j) x
     ·have H2:=zH h2;go_wp2_with fail;go_quiet (first | (go_at_call 50;exact eJ (el _ _ _ _)) | (go_at_call 51;exact eJ (u9 _ _ _ (zs.take j) _ _ RH.out zO)))
      go_wp2_with fail;go_roundg (gk - 1)
      case measure=>omega
      case rel=>exact ⟨j+1,zO,by go_num,by rw [<- HX.out,HS.out,HB.out,H1.out,H2.out];rfl,bW hb _⟩
     ·have H2:=zH h2;go_wp2_with fail;go_quiet (first | (go_at_call 50;exact eJ (el _ _ _ _)) | (go_at_call 51;exact eJ (u9 _ _ _ (zs.take j) _ _ RH.out zO)))
      go_wp2_with fail;go_ret;refine ⟨aw ?_,bW b03 _⟩;rw [HC.out,<- HX.out,HS.out,HB.out,H1.out,H2.out];simp
   ·have hg0:decide (ar<=j)=true:=zJ;have hg1:decide (j < ar)=false:=zJ;have HB:Hid (jL ar (wrap64 (n - 1)) j (zs.take j) x = !(x == 0)):=zH (by unfold jL;rw [if_neg zO]);cases h1:(x == 0)
    ·have H1:=zH h1;have h2:(x != 0)=true:=by simp [bne,h1]
     go_wp2_with fail;go_quiet (fail)
     exact Gz
    ·have H1:=zH h1;have h2:(x != 0)=false:=by simp [bne,h1]
     go_wp2_with fail;go_quiet (fail)
     go_wp2_with fail;go_roundg (gk - 1)
     case measure=>omega
     case rel=>exact ⟨j+1,zO,by go_num,by rw [<- HX.out,HS.out,HB.out,H1.out];rfl,bW hb _⟩
  ·have HE:Hid (R=true):=zH (by rw [<- HX.out,List.drop_eq_nil_of_le zO];rfl);by_cases h0:0 < ar
   ·have hg0:decide ((ar:Int) > 0)=true:=zJ;go_wp2_with fail;refine (el _ _ _ _).mono ?_;rintro e w' ⟨rfl,rfl⟩;go_wp2_with fail;go_ret;refine ⟨aw ?_,b03⟩;rw [HC.out,HE.out];simp [h0]
   ·have hg0:decide ((ar:Int) > 0)=false:=zJ;go_wp2_with fail;go_ret;refine ⟨aw ?_,b03⟩;rw [HC.out];simp [h0]
theorem GE {p:Prop} (h:p:=by
  go_wp2_with fail;go_ret;refine ⟨aw ?_,hb⟩;rw [HC.out,<- HO.out,HS.out,HB.out,H1.out];simp):p:=h
theorem bZ (k a b c n:Int) (w:World):Calls Tryz.prog 39 #[.agg #[k,a,b,c],n] w fun e w'=>e=.returned (.bool (fJ k a b c n))/\Below w w w':=by
 have hbd:=ev k;obtain ⟨ar,har⟩:∃ ar:Nat,aA k=ar:=⟨(aA k).toNat,zO⟩;have HAR:=zH har;have har4:ar<=3:=zO;obtain ⟨R,hR⟩:∃ R,tZ ar (wrap64 (n - 1)) [] [a,b,c]=R:=⟨_,rfl⟩;have HC:Hid (fJ k a b c n=(ee n 1 4 && (decide (0 < ar) && R))):=zH (by
  unfold fJ;cases hin:ee n 1 4
  ·simp
  ·have:1<=n/\n<=4:=by rcases eO n 1 4 with ⟨_,h⟩ | ⟨h,_⟩<;>simp_all
   have e1:wrap64 (n - 1)=n - 1:=by unfold wrap64;omega
   rw [<- hR,e1,har];simp)
 have X0:=zH (Bx.new w 39 #[k,a,b,c]);obtain ⟨zs,hz⟩:∃ zs:List Int,[a,b,c]=zs:=⟨_,rfl⟩;have hzl:zs.length=3:=by rw [<- hz];rfl
 have HZ:=zH hz;rw [hz] at hR;have HR:=zH hR;clear har hbd hR hz;cases hn0:ee n 1 4
 ·have HN:=zH hn0;clear hn0;go_enter Tryz.func39,Tryz.ntmps39;go_wp2_with fail;refine (eK _ _ _ _).mono ?_;rintro e w' ⟨rfl,rfl⟩;rw [HN.out];go_wp2_with fail;go_ret;refine ⟨aw ?_,(zW).alloc zR _⟩;rw [HC.out,HN.out];rfl
 ·have HN:=zH hn0;clear hn0;obtain ⟨p0,p1,p2,p3,_⟩:=X0.four;by_cases h0:ar=0
  ·have h0':((ar:Int) == 0)=true:=by simp [h0]
   go_enter Tryz.func39,Tryz.ntmps39;go_wp2_with fail;refine (eK _ _ _ _).mono ?_;rintro e w' ⟨rfl,rfl⟩;rw [HN.out];go_wp2_with fail;refine (bO _ _).mono ?_;rintro e w' ⟨rfl,rfl⟩;rw [HAR.out];go_wp2_with fail;go_ret;refine ⟨aw ?_,(zW).alloc zR _⟩;rw [HC.out,h0];simp
  ·have h0':((ar:Int) == 0)=false:=by simp [h0]
   have hmk:=run_makeMap_plain (P:=Tryz.prog) (w:=(w.alloc (.cells #[k,a,b,c] 39)).alloc (.cells #[a,b,c] 3)) 78;go_enter Tryz.func39,Tryz.ntmps39;go_wp2_with fail;refine (eK _ _ _ _).mono ?_;rintro e w' ⟨rfl,rfl⟩;rw [HN.out];go_wp2_with fail;refine (bO _ _).mono ?_;rintro e w' ⟨rfl,rfl⟩;rw [HAR.out];go_wp2_with fail;clear p0 p1 p2 p3;go_loopg [28] 3 (fun m i wr=>∃ (j:Nat) (es:Array MapEntry) (clock:Nat),j+m=3/\i=.int .i64 j/\tZ ar (wrap64 (n - 1)) (zs.take j) (zs.drop j)=R/\(j<=ar->EntsI es.toList (zs.take j))/\wr.heap[w.heap.size+1+1]? = some (.map es clock)/\Bx wr w 39 #[k,a,b,c]/\Bx wr (w.heap.size+1) 3 #[a,b,c]/\Below w w wr)
   case atStart =>
    refine ⟨0,#[],0,zO,rfl,by simpa using HR.out,fun _=>by simp [EntsI],?_,((Bx.new w _ _).alloc _).alloc _,(Bx.new' zI).alloc _,(((zW).alloc zR _).alloc zI _).alloc zS _⟩;have:=heap_alloc_new ((w.alloc (.cells #[k,a,b,c] 39)).alloc (.cells #[a,b,c] 3)) (.map #[] 0);simpa using this
   case round =>
    clear hmk;obtain ⟨j,es,clock,hj,rfl,hok,hents,hmap,hx,hy,hb⟩:=hrel;have HO:=zH hok;have HE:=zH hents;have HX:=zH hx;have HY:=zH hy;have HMp:=zH hmap;have hs0:=hb.size;clear hok hents hx hy hmap;obtain ⟨p0,p1,p2,p3,_⟩:=HX.four;have hrlt:w.heap.size+1+1 < wr.heap.size:=(Array.getElem?_eq_some_iff.1 HMp.out).1;have RZ:RdI wr (some ⟨w.heap.size+1,0,none⟩) 3 zs:=by
     have:=HY.rdI (zs:=[a,b,c]) rfl;rw [HZ.out] at this;rw [hzl] at this;exact this
    by_cases hlt:j < 3
    ·obtain ⟨bb,off,x,hA,hB,hd,c0⟩:=RZ.at_ hlt;injection hA with hA;injection hA with hA1 hA2 _;subst hA1 hA2
     rw [Nat.zero_add] at c0;have HS:=zH (xM (ar:=ar) (m:=wrap64 (n - 1)) hd);have HD:=zH hd;clear hd RZ;by_cases hja:j < ar
     ·have HB:Hid (jL ar (wrap64 (n - 1)) j (zs.take j) x=((!ee x 0 (wrap64 (n - 1))) || gH (zs.take j) x)):=zH (by unfold jL;rw [if_pos zO]);cases h1:ee x 0 (wrap64 (n - 1))
      ·have H1:=zH h1;clear h1;go_wp2_with fail;refine (bO _ _).mono ?_;rintro e w' ⟨rfl,rfl⟩;rw [HAR.out];go_wp2_with fail;refine (eK _ _ _ _).mono ?_;rintro e w' ⟨rfl,rfl⟩;rw [H1.out];exact GE
      ·have H1:=zH h1;clear h1;cases h2:gH (zs.take j) x
       ·have H2:=zH h2;have hl:(Instr.lookup 78 (.map (some (w.heap.size+1+1))) (.int .i64 x) false).run Tryz.prog wr=.ok (.bool false) wr:=by
         have:=ix (w.heap.size+1+1) clock x es (zs.take j) wr HMp.out (HE.out zO);rw [show (zs.take j).any (· == x)=false from h2] at this;exact this
        have hu:(Instr.mapUpdate 78 (.map (some (w.heap.size+1+1))) (.int .i64 x) (.bool true)).run Tryz.prog wr=.ok () _:=nA (w.heap.size+1+1) clock x es (zs.take j) wr HMp.out (HE.out zO) h2;clear h2;go_wp2_with fail;refine (bO _ _).mono ?_;rintro e w' ⟨rfl,rfl⟩;rw [HAR.out];go_wp2_with fail;refine (eK _ _ _ _).mono ?_;rintro e w' ⟨rfl,rfl⟩;rw [H1.out];go_wp2_with fail;go_roundg (gk - 1)
        case measure=>omega
        case rel =>
         refine ⟨j+1,_,_,zO,by go_num,?_,?_,pN HMp.out,HX.setObjI zO _,HY.setObjI zO _,mL hb zO _⟩
         ·rw [<- HO.out,HS.out,HB.out,H1.out,H2.out];rfl
         ·intro _;rw [ro HD.out];exact (HE.out zO).push x clock
       ·have H2:=zH h2;have hl:(Instr.lookup 78 (.map (some (w.heap.size+1+1))) (.int .i64 x) false).run Tryz.prog wr=.ok (.bool true) wr:=by
         have:=ix (w.heap.size+1+1) clock x es (zs.take j) wr HMp.out (HE.out zO);rw [show (zs.take j).any (· == x)=true from h2] at this;exact this
        clear h2;go_wp2_with fail;refine (bO _ _).mono ?_;rintro e w' ⟨rfl,rfl⟩;rw [HAR.out];go_wp2_with fail;refine (eK _ _ _ _).mono ?_;rintro e w' ⟨rfl,rfl⟩;rw [H1.out];go_wp2_with fail;go_ret;refine ⟨aw ?_,hb⟩;rw [HC.out,<- HO.out,HS.out,HB.out,H1.out,H2.out];simp
     ·have HB:Hid (jL ar (wrap64 (n - 1)) j (zs.take j) x = !(x == 0)):=zH (by unfold jL;rw [if_neg zO]);cases h1:(x == 0)
      ·have H1:=zH h1;go_wp2_with fail;refine (bO _ _).mono ?_;rintro e w' ⟨rfl,rfl⟩;rw [HAR.out];exact GE
      ·have H1:=zH h1;go_wp2_with fail;refine (bO _ _).mono ?_;rintro e w' ⟨rfl,rfl⟩;rw [HAR.out];go_wp2_with fail;go_roundg (gk - 1)
       case measure=>omega
       case rel =>
        refine ⟨j+1,es,clock,zO,by go_num,?_,fun hh=>absurd hh zO,HMp.out,HX.out,HY.out,hb⟩;rw [<- HO.out,HS.out,HB.out,H1.out];rfl
    ·have HE:Hid (R=true):=zH (by rw [<- HO.out,List.drop_eq_nil_of_le zO];rfl);go_wp2_with fail;go_ret;refine ⟨aw ?_,hb⟩;rw [HC.out,HE.out,HN.out];simp;omega
structure Zw where
 a:Int
 b:Int
 c:Int
 d:Int
 deriving DecidableEq
structure Dw where
 n:Zw
 e:Int
 deriving DecidableEq
def Zw.zero:Zw:=⟨0,0,0,0⟩
def Dw.zero:Dw:=⟨Zw.zero,0⟩
def fK (x:Int):Bool:=ee x (-1073741824) 1073741824
def mj (x:Zw):Bool:=fK x.a && (fK x.b && (fK x.c && fK x.d))
def Uc (x:Zw):Option Zw:=if mj x then some x else none
def xN (x y:Zw):Option Zw:=if mj x && mj y then Uc ⟨x.a+y.a,x.b+y.b,x.c+y.c,x.d+y.d⟩ else none
def ai (x y:Zw):Zw:=⟨x.a * y.a - x.b * y.d - x.c * y.c - x.d * y.b,x.a * y.b+x.b * y.a - x.c * y.d - x.d * y.c,x.a * y.c+x.b * y.b+x.c * y.a - x.d * y.d,x.a * y.d+x.b * y.c+x.c * y.b+x.d * y.a⟩
def oT (x y:Zw):Option Zw:=if mj x && mj y then Uc (ai x y) else none
def VZ (x:Zw):Zw:=if mj x then ⟨-x.a, -x.b, -x.c, -x.d⟩ else Zw.zero
def cY (x:Zw):Zw:=⟨x.b - x.d,x.a+x.c,x.b+x.d,x.c - x.a⟩
def jR (y:Zw):Bool:=y.a % 2 == 0 && (y.b % 2 == 0 && (y.c % 2 == 0 && y.d % 2 == 0))
def nD (x:Zw):Option Zw:=if mj x && jR (cY x) then some ⟨(cY x).a / 2,(cY x).b / 2,(cY x).c / 2,(cY x).d / 2⟩ else none
def lm (x:Dw):Bool:=mj x.n && (ee x.e 0 60 && (x.e == 0 || (nD x.n).isNone))
def m7:Nat->Zw->Zw × Nat
 |0,n=>(n,0)
 |k+1,n=>match nD n with
  |some m=>m7 k m
  |none=>(n,k+1)
def xO (n:Zw) (k:Int):Option Dw:=if mj n && ee k 0 120 then (if 60 < (m7 k.toNat n).2 then none else some ⟨(m7 k.toNat n).1,((m7 k.toNat n).2:Nat)⟩) else none
def pO:Zw:=⟨0,1,0, -1⟩
def CO:Nat->Zw->Option Zw
 |0,n=>some n
 |k+1,n=>match oT n pO with
  |some m=>CO k m
  |none=>none
def Ar (a b:Int):Int:=if a > b then a else b
def rp (x y:Dw):Option Dw :=
 if lm x && lm y then
  match CO (Ar x.e y.e - x.e).toNat x.n,CO (Ar x.e y.e - y.e).toNat y.n with
  |some a,some b=>match xN a b with
   |some n=>xO n (Ar x.e y.e)
   |none=>none
  |_,_=>none
 else none
def iR (x y:Dw):Option Dw :=
 if lm x && lm y then
  match oT x.n y.n with
  |some n=>xO n (x.e+y.e)
  |none=>none
 else none
def Um (x:Dw):Dw:=if lm x then ⟨VZ x.n,x.e⟩ else Dw.zero
def fw (k:Nat):Zw:=match k % 8 with
 |0=>⟨1,0,0,0⟩
 |1=>⟨0,1,0,0⟩
 |2=>⟨0,0,1,0⟩
 |3=>⟨0,0,0,1⟩
 |4=>⟨-1,0,0,0⟩
 |5=>⟨0, -1,0,0⟩
 |6=>⟨0,0, -1,0⟩
 |_=>⟨0,0,0, -1⟩
def cV (k:Nat):Dw:=⟨fw k,0⟩
def GF:Dw:=⟨⟨1,0,0,0⟩,1⟩
def Me (n:Nat):Nat:=if n=2 then 1 else if n=4 then 2 else if n=8 then 3 else if n=16 then 4 else 0
def PF (v:List Dw):Bool:=v.all lm && decide (0 < Me v.length)
def aZ (i q:Nat):Bool:=i / 2 ^ q % 2 == 1
def cU (i q:Nat):Nat:=if aZ i q then i - 2 ^ q else i+2 ^ q
def As (i:Nat) (turn:Bool) (k:Nat):List (Nat × Dw):=[(i,cV (if turn then k else 0))]
def Mf (i q:Nat) (turn:Bool):List (Nat × Dw):=[(if turn then cU i q else i,cV 0)]
def bU (g:Gt) (i:Nat):List (Nat × Dw) :=
 let p:=g.a.toNat
 let q:=g.b.toNat
 let r:=g.c.toNat
 let a:=aZ i p
 let b:=aZ i q
 if g.k=1 then Mf i p true
 else if g.k=2 then [(cU i p,cV (if a then 6 else 2))]
 else if g.k=3 then As i a 4
 else if g.k=5 then As i a 2
 else if g.k=6 then As i a 6
 else if g.k=7 then As i a 1
 else if g.k=8 then As i a 7
 else if g.k=9 then Mf i q a
 else if g.k=10 then As i (a && b) 4
 else if g.k=12 then Mf i r (a && b)
 else if g.k=11 then [(if a != b then cU (cU i p) q else i,cV 0)]
 else [(if a then cU i p else i,GF),(if a then i else cU i p,if a then Um GF else GF)]
def vf (x:Dw) (out:List Dw) (t:Nat × Dw):Option (List Dw) :=
 match iR x t.2 with
 |some y=>match rp (out.getD t.1 Dw.zero) y with
  |some z=>some (out.set t.1 z)
  |none=>none
 |none=>none
def fR (x:Dw):List (Nat × Dw)->List Dw->Option (List Dw)
 |[],out=>some out
 |t :: r,out=>match vf x out t with
  |some o=>fR x r o
  |none=>none
def nE (g:Gt):Nat->List Dw->List Dw->Option (List Dw)
 |_,[],out=>some out
 |i,x :: r,out=>if x=Dw.zero then nE g (i+1) r out else
  match fR x (bU g i) out with
  |some o=>nE g (i+1) r o
  |none=>none
def tP (g:Gt) (v:List Dw):Option (List Dw):=if PF v && fJ g.k g.a g.b g.c (Me v.length:Nat) then nE g 0 v (List.replicate v.length Dw.zero) else none
def nF:List Gt->List Dw->Option (List Dw)
 |[],v=>some v
 |g :: r,v=>match tP g v with
  |some o=>nF r o
  |none=>none
def t7 (gs:List Gt) (v:List Dw):Option (List Dw):=if PF v then nF gs v else none
def iS (n i:Nat):List Dw:=(List.replicate (2 ^ n) Dw.zero).set i ⟨⟨1,0,0,0⟩,0⟩
end Go.Proofs.YtmenmibfkojnoaaGreat
namespace Go.Proofs.YtmenmibfkojnoaaGreat
open Go.RowKit
set_option linter.unusedVariables false
section
variable {α:Type} {f:α->List Value} {s:Nat}
theorem oU (hf:∀ x,(f x).length=s) (l:List α):(l.flatMap f).length=l.length * s:=by
 induction l with
 |nil=>simp
 |cons x r ih=>simp only [List.flatMap_cons,List.length_append,hf,ih,List.length_cons,Nat.add_mul];omega
theorem vh (hf:∀ x,(f x).length=s) (l:List α) (k:Nat):(l.drop k).flatMap f=(l.flatMap f).drop (k * s):=by
 induction k generalizing l with
 |zero=>simp
 |succ k ih =>
  cases l with
  |nil=>simp
  |cons x r =>
   rw [List.drop_succ_cons,ih r,List.flatMap_cons,show (k+1) * s=s+k * s by rw [Nat.add_mul];omega,<- List.drop_drop];congr 1;rw [List.drop_append_of_le_length (by rw [hf];exact zR),List.drop_eq_nil_of_le (by rw [hf];exact zR)];rfl
theorem CP (hf:∀ x,(f x).length=s) (l:List α) (k:Nat):(l.take k).flatMap f=(l.flatMap f).take (k * s):=by
 induction k generalizing l with
 |zero=>simp
 |succ k ih =>
  cases l with
  |nil=>simp
  |cons x r =>
   rw [List.take_succ_cons,List.flatMap_cons,ih r,List.flatMap_cons,show (k+1) * s=s+k * s by rw [Nat.add_mul];omega,List.take_append,hf,Nat.add_sub_cancel_left];rw [List.take_of_length_le (l:=f x) (by rw [hf];omega)]
theorem PG (hf:∀ x,(f x).length=s) {l r:List α} {k j:Nat} {x:α} (h:l.drop k=x :: r) (hj:j < s):(l.flatMap f)[k * s+j]? = (f x)[j]?:=by
 have e:(l.flatMap f).drop (k * s)=f x++r.flatMap f:=by rw [<- vh hf,h];rfl
 have h2:(l.flatMap f)[k * s+j]? = ((l.flatMap f).drop (k * s))[j]?:=by rw [List.getElem?_drop]
 rw [h2,e,List.getElem?_append_left (by rw [hf];exact hj)]
theorem Qy (hf:∀ x,(f x).length=s) {l:List α} {k:Nat} {y:α} (hk:k < l.length):(l.set k y).flatMap f=(l.flatMap f).take (k * s)++(f y++(l.flatMap f).drop ((k+1) * s)):=by
 rw [List.set_eq_take_append_cons_drop,if_pos hk,List.flatMap_append,List.flatMap_cons,CP hf,vh hf]
theorem GH (hf:∀ x,(f x).length=s) {l r:List α} {k:Nat} {x:α} (h:l.drop k=x :: r):l.flatMap f=(l.flatMap f).take (k * s)++(f x++(l.flatMap f).drop ((k+1) * s)):=by
 have h2:l.drop (k+1)=r:=by
  have:=congrArg List.tail h;rwa [List.tail_drop] at this
 rw [<- vh hf,h2,<- CP hf];have e:l=l.take k++x :: r:=by rw [<- h,List.take_append_drop]
 have e2:=congrArg (fun z=>z.flatMap f) e;simp only [List.flatMap_append,List.flatMap_cons] at e2;exact e2
end
def Zw.cells (x:Zw):List Value:=[.int .i64 x.a,.int .i64 x.b,.int .i64 x.c,.int .i64 x.d]
def Dw.cells (x:Dw):List Value:=[.int .i64 x.n.a,.int .i64 x.n.b,.int .i64 x.n.c,.int .i64 x.n.d,.int .i64 x.e]
def PH (x:Nat × Dw):List Value:=[.int .i64 (x.1:Int),.int .i64 x.2.n.a,.int .i64 x.2.n.b,.int .i64 x.2.n.c,.int .i64 x.2.n.d,.int .i64 x.2.e]
def bL (vs:List Dw):List Value:=vs.flatMap Dw.cells
def lp (vs:List (Nat × Dw)):List Value:=vs.flatMap PH
theorem jS (x:Dw):x.cells.length=5:=rfl
theorem pP (x:Nat × Dw):(PH x).length=6:=rfl
theorem tQ (vs:List Dw):(bL vs).length=vs.length * 5:=oU jS vs
theorem tR (a b:List Dw):bL (a++b)=bL a++bL b:=by simp [bL]
theorem Au {vs:List Dw}:∀ u ∈ bL vs,u.oneCell'=true:=by
 intro u hu;simp only [bL,List.mem_flatMap,Dw.cells] at hu;obtain ⟨g,_,hg⟩:=hu;simp at hg;rcases hg with rfl | rfl | rfl | rfl | rfl<;>rfl
def RdD (w:World) (A:Option Addr) (n:Nat) (vs:List Dw):Prop:=vs.length=n/\Rd w 5 A n (bL vs)
def RdSn (w:World) (A:Option Addr) (n:Nat) (vs:List (Nat × Dw)):Prop:=vs.length=n/\Rd w 6 A n (lp vs)
section
variable {w w':World} {n:Nat} {A:Option Addr}
theorem RdD.at_ {vs:List Dw} (h:RdD w A n vs) {k:Nat} (hk:k < n):∃ (b off:Nat) (x:Dw),A=some ⟨b,off,none⟩/\b < w.heap.size/\vs.drop k=x :: vs.drop (k+1) ∧
  w.cell? ⟨b,off+k * 5,none⟩=some (.int .i64 x.n.a)/\w.cell? ⟨b,off+k * 5+1,none⟩=some (.int .i64 x.n.b)/\w.cell? ⟨b,off+k * 5+2,none⟩=some (.int .i64 x.n.c)/\w.cell? ⟨b,off+k * 5+3,none⟩=some (.int .i64 x.n.d)/\w.cell? ⟨b,off+k * 5+4,none⟩=some (.int .i64 x.e):=by
 obtain ⟨hl,hr⟩:=h;obtain ⟨b,off,e,hb,hc⟩:=hr.2 zO;have hd:=ax (l:=vs) (k:=k) zO;have f:=fun j hj=>PG jS (j:=j) hd hj
 exact ⟨b,off,_,e,hb,hd,hc _ _ (f 0 zO),hc _ _ (f 1 zO),hc _ _ (f 2 zO),hc _ _ (f 3 zO),hc _ _ (f 4 zO)⟩
theorem RdSn.at_ {vs:List (Nat × Dw)} (h:RdSn w A n vs) {k:Nat} (hk:k < n):∃ (b off:Nat) (x:Nat × Dw),A=some ⟨b,off,none⟩/\b < w.heap.size/\vs.drop k=x :: vs.drop (k+1) ∧
  w.cell? ⟨b,off+k * 6,none⟩=some (.int .i64 (x.1:Int))/\w.cell? ⟨b,off+k * 6+1,none⟩=some (.int .i64 x.2.n.a)/\w.cell? ⟨b,off+k * 6+2,none⟩=some (.int .i64 x.2.n.b)/\w.cell? ⟨b,off+k * 6+3,none⟩=some (.int .i64 x.2.n.c)/\w.cell? ⟨b,off+k * 6+4,none⟩=some (.int .i64 x.2.n.d)/\w.cell? ⟨b,off+k * 6+5,none⟩=some (.int .i64 x.2.e):=by
 obtain ⟨hl,hr⟩:=h;obtain ⟨b,off,e,hb,hc⟩:=hr.2 zO;have hd:=ax (l:=vs) (k:=k) zO;have f:=fun j hj=>PG pP (j:=j) hd hj
 exact ⟨b,off,_,e,hb,hd,hc _ _ (f 0 zO),hc _ _ (f 1 zO),hc _ _ (f 2 zO),hc _ _ (f 3 zO),hc _ _ (f 4 zO),hc _ _ (f 5 zO)⟩
theorem RdD.below {vs:List Dw} (h:RdD w A n vs) (hb:Below w w w'):RdD w' A n vs:=⟨h.1,h.2.below hb⟩
theorem RdD.alloc {vs:List Dw} (h:RdD w A n vs) (o:Obj):RdD (w.alloc o) A n vs:=⟨h.1,h.2.alloc o⟩
theorem RdD.drew {vs:List Dw} (h:RdD w A n vs):RdD w.drew A n vs:=h
theorem RdD.drewN {vs:List Dw} (h:RdD w A n vs) (k:Nat):RdD (w.drewN k) A n vs:=h
theorem RdSn.below {vs:List (Nat × Dw)} (h:RdSn w A n vs) (hb:Below w w w'):RdSn w' A n vs:=⟨h.1,h.2.below hb⟩
theorem RdSn.alloc {vs:List (Nat × Dw)} (h:RdSn w A n vs) (o:Obj):RdSn (w.alloc o) A n vs:=⟨h.1,h.2.alloc o⟩
theorem RdSn.drew {vs:List (Nat × Dw)} (h:RdSn w A n vs):RdSn w.drew A n vs:=h
theorem RdD.own {base:Nat} {e:TypeId} {c:Nat} {vs:List Dw} (h:w.ownsRow base e 5 (.slice A n c) n (bL vs)):RdD w A n vs:=⟨by
 have h1:=h.1;have h2:=tQ vs;omega,Rd.own h⟩
theorem RdSn.own {base:Nat} {e:TypeId} {c:Nat} {vs:List (Nat × Dw)} (h:w.ownsRow base e 6 (.slice A n c) n (lp vs)):RdSn w A n vs:=⟨by
 have h1:=h.1;have h2:(lp vs).length=vs.length * 6:=oU pP vs;omega,Rd.own h⟩
end
theorem V5 {P S:List Value} {k:Nat} (hP:P.length=k * 5) {a b c d e a' b' c' d' e':Value} :
  (((((P++([a,b,c,d,e]++S)).set (k * 5) a').set (k * 5+1) b').set (k * 5+2) c').set (k * 5+3) d').set (k * 5+4) e'=P++([a',b',c',d',e']++S):=by
 rw [<- hP];simp
theorem V7 {vs:List Dw} {k:Nat} (hk:k < vs.length) (y:Dw) :
  ((((((bL vs).set (k * 5) (.int .i64 y.n.a)).set (k * 5+1) (.int .i64 y.n.b)).set (k * 5+2) (.int .i64 y.n.c)).set (k * 5+3) (.int .i64 y.n.d)).set (k * 5+4) (.int .i64 y.e))=bL (vs.set k y):=by
 have hd:=ax (l:=vs) (k:=k) hk;have e1:bL vs=_:=GH jS hd;have e2:bL (vs.set k y)=_:=Qy jS hk;have hl:((vs.flatMap Dw.cells).take (k * 5)).length=k * 5:=by
  rw [List.length_take,oU jS];omega
 rw [e2,e1];exact V5 hl
end Go.Proofs.YtmenmibfkojnoaaGreat
namespace Go.Proofs.YtmenmibfkojnoaaGreat
open Go.RowKit
set_option linter.unusedVariables false
theorem qD {x:Int} (h:fK x=true) : -1073741824<=x/\x<=1073741824:=by
 unfold fK at h;rcases eO x (-1073741824) 1073741824 with ⟨_,h1⟩ | ⟨h1,_⟩
 ·exact h1
 ·rw [h1] at h;cases h
theorem GI {x:Zw} (h:mj x=true):fK x.a=true/\fK x.b=true/\fK x.c=true/\fK x.d=true:=by
 simpa [mj] using h
theorem oV {x:Zw} (h:mj x=true):(-1073741824<=x.a/\x.a<=1073741824)/\(-1073741824<=x.b/\x.b<=1073741824)/\(-1073741824<=x.c/\x.c<=1073741824)/\(-1073741824<=x.d/\x.d<=1073741824):=by
 obtain ⟨h1,h2,h3,h4⟩:=GI h;exact ⟨qD h1,qD h2,qD h3,qD h4⟩
theorem fi {x y:Int} (hx : -1073741824<=x/\x<=1073741824) (hy : -1073741824<=y/\y<=1073741824) : -1152921504606846976<=x * y/\x * y<=1152921504606846976:=by
 have h1:(x.natAbs:Int)<=1073741824:=zO;have h2:(y.natAbs:Int)<=1073741824:=zO;have h3:x.natAbs * y.natAbs<=1073741824 * 1073741824:=Nat.mul_le_mul zO zO;rw [<- Int.natAbs_mul] at h3;omega
theorem nG (n:Int) (w:World):Calls Tryz.prog 203 #[n] w fun e w'=>e=.returned (.bool (fK n))/\w=w':=by
 go_enter Tryz.func203,Tryz.ntmps203;go_wp2_with fail;refine (el _ _ _ _).mono ?_;rintro e w1 ⟨rfl,rfl⟩;go_wp2_with fail;go_ret;exact ⟨rfl,rfl⟩
theorem em (x:Zw) (w:World):Calls Tryz.prog 167 #[.agg #[x.a,x.b,x.c,x.d]] w fun e w'=>e=.returned (.bool (mj x))/\Below w w w':=by
 have hB:Below w w (w.alloc (.cells #[x.a,x.b,x.c,x.d] 108)):=(zW).alloc zR _;have X0:=Bx.new w 108 #[x.a,x.b,x.c,x.d];obtain ⟨q0,q1,q2,q3,_⟩:=X0.four;have HB:=zH hB;clear hB X0;have e0:mj x=(fK x.a && (fK x.b && (fK x.c && fK x.d))):=rfl;rw [e0];clear e0;obtain ⟨na,ha⟩:∃ y,fK x.a=y:=⟨_,rfl⟩;obtain ⟨nb,hb⟩:∃ y,fK x.b=y:=⟨_,rfl⟩;obtain ⟨nc,hc⟩:∃ y,fK x.c=y:=⟨_,rfl⟩;obtain ⟨nd,hd⟩:∃ y,fK x.d=y:=⟨_,rfl⟩;rw [ha,hb,hc,hd];have HA:=zH ha;have HB':=zH hb;have HC:=zH hc;have HD:=zH hd;clear ha hb hc hd;go_enter Tryz.func167,Tryz.ntmps167;go_wp2_with fail;refine (nG _ _).mono ?_;rintro e w1 ⟨rfl,rfl⟩;rw [HA.out];cases na
 ·go_wp2_with fail;go_ret;exact ⟨rfl,HB⟩
 ·go_wp2_with fail;refine (nG _ _).mono ?_;rintro e w1 ⟨rfl,rfl⟩;rw [HB'.out];cases nb
  ·go_wp2_with fail;go_ret;exact ⟨rfl,HB⟩
  ·go_wp2_with fail;refine (nG _ _).mono ?_;rintro e w1 ⟨rfl,rfl⟩;rw [HC.out];cases nc
   ·go_wp2_with fail;go_ret;exact ⟨rfl,HB⟩
   ·go_wp2_with fail;refine (nG _ _).mono ?_;rintro e w1 ⟨rfl,rfl⟩;rw [HD.out];go_wp2_with fail;go_ret;exact ⟨by cases nd<;>rfl,HB.out⟩
def ZB (w:World) (g:Nat) (x:Zw) (wx:World):Prop:=Bx wx g 108 #[x.a,x.b,x.c,x.d]/\Below w w wx/\w.heap.size<=g
section
variable {w wx w':World} {g:Nat} {x y:Zw}
theorem ZB.below (h:ZB w g x wx) (hb:Below wx wx w'):ZB w g x w':=⟨h.1.below hb,aa h.2.1 hb,h.2.2⟩
theorem ZB.cells (h:ZB w g x wx):wx.cell? ⟨g,0,none⟩=some (.int .i64 x.a)/\wx.cell? ⟨g,1,none⟩=some (.int .i64 x.b)/\wx.cell? ⟨g,2,none⟩=some (.int .i64 x.c)/\wx.cell? ⟨g,3,none⟩=some (.int .i64 x.d)/\wx.frozen? ⟨g,0,none⟩=false/\wx.frozen? ⟨g,1,none⟩=false/\wx.frozen? ⟨g,2,none⟩=false/\wx.frozen? ⟨g,3,none⟩=false:=h.1.four
abbrev set4 (w:World) (g:Nat) (y:Zw):World:=(((w.setCell ⟨g,0,none⟩ (.int .i64 y.a)).setCell ⟨g,1,none⟩ (.int .i64 y.b)).setCell ⟨g,2,none⟩ (.int .i64 y.c)).setCell ⟨g,3,none⟩ (.int .i64 y.d)
theorem ZB.set (h:ZB w g x wx) (y:Zw):ZB w g y (set4 wx g y):=by
 refine ⟨(((h.1.set_ 0 _).set_ 1 _).set_ 2 _).set_ 3 _,?_,h.2.2⟩;exact (((h.2.1.setCell h.2.2 _).setCell h.2.2 _).setCell h.2.2 _).setCell h.2.2 _
theorem ZB.far {g':Nat} (h:ZB w g x wx) (hne:g ≠ g') (hg:w.heap.size<=g') (y:Zw):ZB w g x (set4 wx g' y) :=
 ⟨(((h.1.far hne _).far hne _).far hne _).far hne _,(((h.2.1.setCell hg _).setCell hg _).setCell hg _).setCell hg _,h.2.2⟩
end
theorem GJ (x:Zw) (w:World) (h:mj x=true):Calls Tryz.prog 205 #[.agg #[x.a,x.b,x.c,x.d]] w fun e w'=>e=.returned (.tuple #[.agg #[x.a,x.b,x.c,x.d],.bool true])/\Below w w w':=by
 have H:=zH h;have X0:=zH (show ZB w w.heap.size x ((w.alloc (.cells #[x.a,x.b,x.c,x.d] 108)).alloc (.cells #[Zw.zero.a,Zw.zero.b,Zw.zero.c,Zw.zero.d] 108)) from ⟨(Bx.new w _ _).alloc _,((zW).alloc zR _).alloc zI _,zR⟩);have R0:=zH (show ZB w (w.heap.size+1) Zw.zero ((w.alloc (.cells #[x.a,x.b,x.c,x.d] 108)).alloc (.cells #[Zw.zero.a,Zw.zero.b,Zw.zero.c,Zw.zero.d] 108)) from ⟨Bx.new' zI,((zW).alloc zR _).alloc zI _,zO⟩);clear h;go_enter Tryz.func205,Tryz.ntmps205;go_wp2_with fail;refine (em x _).mono ?_;rintro e w1 ⟨rfl,b1⟩;rw [H.out];have X1:=zH (X0.below b1);have R1:=zH (R0.below b1);clear b1 X0 R0;obtain ⟨q0,q1,q2,q3,_⟩:=X1.cells;obtain ⟨r0,r1,r2,r3,f0,f1,f2,f3⟩:=R1.cells;go_wp2_with fail;obtain ⟨c0,c1,c2,c3,_⟩:=(R1.set x).cells;simp only [set4] at c0 c1 c2 c3
 exact bodyPost_ret (v:=.tuple #[.agg #[x.a,x.b,x.c,x.d],.bool true]) (by simp [results,Tryz.results205,go_sem,c0,c1,c2,c3]) rfl ⟨rfl,(R1.set x).2.1⟩
theorem GK {p:Prop} (h:p:=by
  split at h
  ·rename_i h1;simp only [Bool.and_eq_true] at h1;unfold Uc at h;split at h
   ·rename_i h2;injection h with h;subst h
    exact ⟨h1.1,h1.2,h2,rfl⟩
   ·cases h
  ·cases h):p:=h
theorem ER {x y z:Zw} (h:xN x y=some z):mj x=true/\mj y=true/\mj z=true/\z=⟨x.a+y.a,x.b+y.b,x.c+y.c,x.d+y.d⟩:=by
 unfold xN at h;exact GK
theorem ES {x y z:Zw} (h:oT x y=some z):mj x=true/\mj y=true/\mj z=true/\z=ai x y:=by
 unfold oT at h;exact GK
def Z3 (w:World) (x y r:Zw) (wx:World):Prop:=ZB w w.heap.size x wx/\ZB w (w.heap.size+1) y wx/\ZB w (w.heap.size+2) r wx
theorem Z3.below {w wx w':World} {x y r:Zw} (h:Z3 w x y r wx) (hb:Below wx wx w'):Z3 w x y r w':=⟨h.1.below hb,h.2.1.below hb,h.2.2.below hb⟩
theorem GM {p:Prop} (h:p:=by
  exact ⟨⟨((Bx.new w _ _).alloc _).alloc _,hb,zR⟩,⟨(Bx.new' zI).alloc _,hb,zO⟩,⟨Bx.new' zI,hb,zO⟩⟩):p:=h
theorem Z3.new (w:World) (x y:Zw):Z3 w x y Zw.zero (((w.alloc (.cells #[x.a,x.b,x.c,x.d] 108)).alloc (.cells #[y.a,y.b,y.c,y.d] 108)).alloc (.cells #[Zw.zero.a,Zw.zero.b,Zw.zero.c,Zw.zero.d] 108)):=by
 have h1:Below w w (w.alloc (.cells #[x.a,x.b,x.c,x.d] 108)):=(zW).alloc zR _;have h2:=h1.alloc h1.size (.cells #[y.a,y.b,y.c,y.d] 108);have hb:=h2.alloc h2.size (.cells #[Zw.zero.a,Zw.zero.b,Zw.zero.c,Zw.zero.d] 108);exact GM
theorem Qz (x y z:Zw) (w:World) (h:xN x y=some z):Calls Tryz.prog 175 #[.agg #[x.a,x.b,x.c,x.d],.agg #[y.a,y.b,y.c,y.d]] w fun e w'=>e=.returned (.tuple #[.agg #[z.a,z.b,z.c,z.d],.bool true])/\Below w w w':=by
 obtain ⟨hx,hy,hz,he⟩:=ER h;have HE:=zH he;rw [he] at hz;have HX:=zH hx;have HY:=zH hy;have HZ:=zH hz;have bx:=oV hx;have b_y:=oV hy;have Z0:=zH (Z3.new w x y);clear h hx hy hz he;go_enter Tryz.func175,Tryz.ntmps175;go_wp2_with fail;refine (em x _).mono ?_;rintro e w1 ⟨rfl,b1⟩;rw [HX.out];have Z1:=zH (Z0.below b1);clear b1 Z0;obtain ⟨p0,p1,p2,p3,_⟩:=Z1.out.2.1.cells;go_wp2_with fail;refine (em y _).mono ?_;rintro e w2 ⟨rfl,b2⟩;rw [HY.out];have Z2:=zH (Z1.below b2);clear b2 Z1 p0 p1 p2 p3;obtain ⟨q0,q1,q2,q3,_⟩:=Z2.out.1.cells;obtain ⟨p0,p1,p2,p3,_⟩:=Z2.out.2.1.cells;go_wp2_with fail;refine (GJ ⟨x.a+y.a,x.b+y.b,x.c+y.c,x.d+y.d⟩ _ HZ).mono ?_;rintro e w3 ⟨rfl,b3⟩;have Z4:=zH (Z2.below b3);clear b3 Z2 p0 p1 p2 p3 q0 q1 q2 q3 bx b_y;have e0:=congrArg Zw.a HE.out;have e1:=congrArg Zw.b HE.out;have e2:=congrArg Zw.c HE.out;have e3:=congrArg Zw.d HE.out
 simp only at e0 e1 e2 e3;rw [<- e0,<- e1,<- e2,<- e3];clear e0 e1 e2 e3;obtain ⟨r0,r1,r2,r3,f0,f1,f2,f3⟩:=Z4.out.2.2.cells;go_wp2_with fail;obtain ⟨c0,c1,c2,c3,_⟩:=(Z4.out.2.2.set z).cells;simp only [set4] at c0 c1 c2 c3;exact bodyPost_ret (v:=.tuple #[.agg #[z.a,z.b,z.c,z.d],.bool true]) (by simp [results,Tryz.results175,go_sem,c0,c1,c2,c3]) rfl ⟨rfl,(Z4.out.2.2.set _).2.1⟩
theorem GN (x y z:Zw) (w:World) (h:oT x y=some z):Calls Tryz.prog 172 #[.agg #[x.a,x.b,x.c,x.d],.agg #[y.a,y.b,y.c,y.d]] w fun e w'=>e=.returned (.tuple #[.agg #[z.a,z.b,z.c,z.d],.bool true])/\Below w w w':=by
 obtain ⟨hx,hy,hz,he⟩:=ES h;have HE:=zH he;rw [he] at hz;have HX:=zH hx;have HY:=zH hy;have HZ:=zH hz;have BX:=zH (oV hx);have BY:=zH (oV hy);have Z0:=zH (Z3.new w x y);clear h hx hy hz he;go_enter Tryz.func172,Tryz.ntmps172;go_wp2_with fail;refine (em x _).mono ?_;rintro e w1 ⟨rfl,b1⟩;rw [HX.out];have Z1:=zH (Z0.below b1);clear b1 Z0;obtain ⟨p0,p1,p2,p3,_⟩:=Z1.out.2.1.cells;go_wp2_with fail;refine (em y _).mono ?_;rintro e w2 ⟨rfl,b2⟩;rw [HY.out];have Z2:=zH (Z1.below b2);clear b2 Z1 p0 p1 p2 p3;obtain ⟨q0,q1,q2,q3,_⟩:=Z2.out.1.cells;obtain ⟨p0,p1,p2,p3,_⟩:=Z2.out.2.1.cells;obtain ⟨xa,xb,xc,xd⟩:=BX.out;obtain ⟨ya,yb,yc,yd⟩:=BY.out;have maa:=fi xa ya;have mab:=fi xa yb;have mac:=fi xa yc;have mad:=fi xa yd;have mba:=fi xb ya;have mbb:=fi xb yb;have mbc:=fi xb yc;have mbd:=fi xb yd;have mca:=fi xc ya;have mcb:=fi xc yb
 have mcc:=fi xc yc;have mcd:=fi xc yd;have mda:=fi xd ya;have mdb:=fi xd yb;have mdc:=fi xd yc;have mdd:=fi xd yd;clear xa xb xc xd ya yb yc yd;go_wp2_with fail;refine (GJ (ai x y) _ HZ).mono ?_;rintro e w3 ⟨rfl,b3⟩;have Z4:=zH (Z2.below b3);clear b3 Z2 p0 p1 p2 p3 q0 q1 q2 q3;obtain ⟨r0,r1,r2,r3,f0,f1,f2,f3⟩:=Z4.out.2.2.cells;rw [<- HE.out];go_wp2_with fail;obtain ⟨c0,c1,c2,c3,_⟩:=(Z4.out.2.2.set z).cells;simp only [set4] at c0 c1 c2 c3;exact bodyPost_ret (v:=.tuple #[.agg #[z.a,z.b,z.c,z.d],.bool true]) (by simp [results,Tryz.results172,go_sem,c0,c1,c2,c3]) rfl ⟨rfl,(Z4.out.2.2.set _).2.1⟩
end Go.Proofs.YtmenmibfkojnoaaGreat
namespace Go.Proofs.YtmenmibfkojnoaaGreat
open Go.RowKit
set_option linter.unusedVariables false
def Z2 (w:World) (x r:Zw) (wx:World):Prop:=ZB w w.heap.size x wx/\ZB w (w.heap.size+1) r wx
theorem Z2.below {w wx w':World} {x r:Zw} (h:Z2 w x r wx) (hb:Below wx wx w'):Z2 w x r w':=⟨h.1.below hb,h.2.below hb⟩
theorem Z2.new (w:World) (x:Zw):Z2 w x Zw.zero ((w.alloc (.cells #[x.a,x.b,x.c,x.d] 108)).alloc (.cells #[Zw.zero.a,Zw.zero.b,Zw.zero.c,Zw.zero.d] 108)):=by
 have h1:Below w w (w.alloc (.cells #[x.a,x.b,x.c,x.d] 108)):=(zW).alloc zR _;have hb:=h1.alloc h1.size (.cells #[Zw.zero.a,Zw.zero.b,Zw.zero.c,Zw.zero.d] 108);exact ⟨⟨(Bx.new w _ _).alloc _,hb,zR⟩,⟨Bx.new' zI,hb,zO⟩⟩
theorem ET {x m:Zw} (h:nD x=some m):mj x=true/\((x.b - x.d) % 2=0/\(x.a+x.c) % 2=0/\(x.b+x.d) % 2=0/\(x.c - x.a) % 2=0)/\m=⟨(x.b - x.d) / 2,(x.a+x.c) / 2,(x.b+x.d) / 2,(x.c - x.a) / 2⟩:=by
 unfold nD at h;split at h
 ·rename_i h1;injection h with h;simp only [Bool.and_eq_true,jR,cY,beq_iff_eq] at h1
  exact ⟨h1.1,⟨h1.2.1,h1.2.2.1,h1.2.2.2.1,h1.2.2.2.2⟩,h.symm⟩
 ·cases h
theorem t9 (a:Int):a.tmod 2=0 ↔ a % 2=0:=by
 rw [<- Int.dvd_iff_tmod_eq_zero,Int.dvd_iff_emod_eq_zero]
theorem CR {a:Int} (h:a % 2=0):a.tdiv 2=a / 2:=Int.tdiv_eq_ediv_of_dvd (Int.dvd_iff_emod_eq_zero.2 h)
theorem QA {x:Zw} (h0:(x.b - x.d).tmod 2=0) (h1:(x.a+x.c).tmod 2=0) (h2:(x.b+x.d).tmod 2=0):((x.c - x.a).tmod 2 != 0) = !jR (cY x):=by
 rw [t9] at h0 h1 h2;unfold jR cY bne;simp only [h0,h1,h2,beq_self_eq_true,Bool.true_and];by_cases h:(x.c - x.a) % 2=0
 ·rw [(t9 _).2 h,h]
 ·rw [beq_eq_false_iff_ne.2 h,beq_eq_false_iff_ne.2 (fun q=>h ((t9 _).1 q))]
theorem Ax {x:Zw} (h:¬ (x.b - x.d).tmod 2=0\/¬ (x.a+x.c).tmod 2=0\/¬ (x.b+x.d).tmod 2=0):true = !jR (cY x):=by
 rw [t9,t9,t9] at h;unfold jR cY;rcases h with h | h | h<;>simp [h]
abbrev EU (w:World) (g:Nat):World:=(((w.setCell ⟨g,0,none⟩ (.int .i64 0)).setCell ⟨g,1,none⟩ (.int .i64 0)).setCell ⟨g,2,none⟩ (.int .i64 0)).setCell ⟨g,3,none⟩ (.int .i64 0)
theorem ZB.set0c {w wx:World} {g:Nat} {x:Zw} (h:ZB w g x wx):(EU wx g).cell? ⟨g,0,none⟩=some (.int .i64 0)/\(EU wx g).cell? ⟨g,1,none⟩=some (.int .i64 0)/\(EU wx g).cell? ⟨g,2,none⟩=some (.int .i64 0)/\(EU wx g).cell? ⟨g,3,none⟩=some (.int .i64 0)/\Below w w (EU wx g):=by
 obtain ⟨c0,c1,c2,c3,_⟩:=(h.set ⟨0,0,0,0⟩).cells;exact ⟨c0,c1,c2,c3,(h.set ⟨0,0,0,0⟩).2.1⟩
theorem ru:(Value.agg #[Zw.zero.a,Zw.zero.b,Zw.zero.c,Zw.zero.d])=.agg #[(0:Int),(0:Int),(0:Int),(0:Int)]:=rfl
def V8 (w w1:World) (x:Zw) (wx:World):Prop:=ZB w w1.heap.size (cY x) wx/\ZB w (w.heap.size+1) Zw.zero wx
theorem GP {p:Prop} (h:p:=by simp [results,Tryz.results166,go_sem,c0,c1,c2,c3]):p:=h
theorem GQ (x:Zw) (w:World) (h:mj x=true):Calls Tryz.prog 166 #[.agg #[x.a,x.b,x.c,x.d]] w fun e w'=>(∃ m,nD x=some m/\e=.returned (.tuple #[.agg #[m.a,m.b,m.c,m.d],.bool true])\/nD x=none/\e=.returned (.tuple #[.agg #[Zw.zero.a,Zw.zero.b,Zw.zero.c,Zw.zero.d],.bool false]))/\Below w w w':=by
 have HX:=zH h;have BX:=zH (oV h);have Z0:=zH (Z2.new w x);clear h;go_enter Tryz.func166,Tryz.ntmps166;go_wp2_with fail;refine (em x _).mono ?_;rintro e w1 ⟨rfl,b1⟩;rw [HX.out];have Z1:=zH (Z0.below b1);clear b1 Z0;obtain ⟨p0,p1,p2,p3,_⟩:=Z1.out.1.cells;obtain ⟨xa,xb,xc,xd⟩:=BX.out;go_upto_region 4 with fail
 go_cut [51] (fun v wx=>v=.bool (!jR (cY x))/\V8 w w1 x wx)
 case first =>
  have hB:=Z1.out.1.2.1.alloc (Below.size Z1.out.1.2.1) (.cells #[.int .i64 (x.b - x.d),.int .i64 (x.a+x.c),.int .i64 (x.b+x.d),.int .i64 (x.c - x.a)] 108);go_wp2_with fail
  all_goals go_meet
  all_goals
   refine ⟨?_,⟨Bx.new w1 _ _,hB,Below.size Z1.out.1.2.1⟩,⟨Z1.out.2.1.alloc _,hB,Z1.out.2.2.2⟩⟩
  all_goals first
   |exact congrArg Value.bool (QA (by assumption) (by assumption) (by assumption))
   |exact congrArg Value.bool (Ax (.inl (by assumption)))
   |exact congrArg Value.bool (Ax (.inr (.inl (by assumption))))
   |exact congrArg Value.bool (Ax (.inr (.inr (by assumption))))
 case rest =>
  obtain ⟨rfl,hz⟩:=hcut;have ZH:=zH hz;clear hz;obtain ⟨q0,q1,q2,q3,_⟩:=ZH.out.1.cells;obtain ⟨r0,r1,r2,r3,f0,f1,f2,f3⟩:=ZH.out.2.cells;cases hev:jR (cY x)
  ·have hn:nD x=none:=by unfold nD;rw [HX.out,hev];rfl
   have HN:=zH hn;clear hn hev;go_wp2_with fail;obtain ⟨c0,c1,c2,c3,hbz⟩:=ZH.out.2.set0c;simp only [EU] at c0 c1 c2 c3 hbz;refine bodyPost_ret (v:=.tuple #[.agg #[(0:Int),(0:Int),(0:Int),(0:Int)],.bool false]) GP rfl ⟨⟨Zw.zero,.inr ⟨HN.out,?_⟩⟩,hbz⟩;rw [ru]
  ·obtain ⟨m,hm⟩:∃ m:Zw,m=⟨(cY x).a / 2,(cY x).b / 2,(cY x).c / 2,(cY x).d / 2⟩:=⟨_,rfl⟩;have hn:nD x=some m:=by rw [hm];unfold nD;rw [HX.out,hev];rfl
   have HN:=zH hn;simp only [jR,Bool.and_eq_true,beq_iff_eq] at hev;have t0:=zH (show (cY x).a.tdiv 2=m.a by rw [hm];exact CR hev.1);have t1:=zH (show (cY x).b.tdiv 2=m.b by rw [hm];exact CR hev.2.1);have t2:=zH (show (cY x).c.tdiv 2=m.c by rw [hm];exact CR hev.2.2.1);have t3:=zH (show (cY x).d.tdiv 2=m.d by rw [hm];exact CR hev.2.2.2);have hb:((cY x).a=x.b - x.d/\(cY x).b=x.a+x.c)/\(cY x).c=x.b+x.d/\(cY x).d=x.c - x.a:=⟨⟨rfl,rfl⟩,rfl,rfl⟩;have hb0 : -2147483648<=(cY x).a/\(cY x).a<=2147483648:=zO;have hb1 : -2147483648<=(cY x).b/\(cY x).b<=2147483648:=zO;have hb2 : -2147483648<=(cY x).c/\(cY x).c<=2147483648:=zO;have hb3 : -2147483648<=(cY x).d/\(cY x).d<=2147483648:=zO;clear hn hev hb hm;go_wp2_with fail;rw [t0.out,t1.out,t2.out,t3.out];obtain ⟨c0,c1,c2,c3,_⟩:=(ZH.out.2.set m).cells;simp only [set4] at c0 c1 c2 c3
   exact bodyPost_ret (v:=.tuple #[.agg #[m.a,m.b,m.c,m.d],.bool true]) GP rfl ⟨⟨m,.inl ⟨HN.out,rfl⟩⟩,(ZH.out.2.set _).2.1⟩
theorem jT {n:Zw} {k:Int} (h:lm ⟨n,k⟩=true):mj n=true/\ee k 0 60=true/\(k=0\/nD n=none)/\0<=k/\k<=60:=by
 unfold lm at h;simp only [Bool.and_eq_true,Bool.or_eq_true,beq_iff_eq,Option.isNone_iff_eq_none] at h;refine ⟨h.1,h.2.1,h.2.2,?_⟩;rcases eO k 0 60 with ⟨_,h1⟩ | ⟨h1,_⟩
 ·exact h1
 ·rw [h1] at h;cases h.2.1
def DB (w:World) (g:Nat) (n:Zw) (k:Int) (wx:World):Prop:=Bx wx g 110 #[n.a,n.b,n.c,n.d,k]/\Below w w wx/\w.heap.size<=g
abbrev Ud (w:World) (g:Nat) (n:Zw) (k:Int):World:=((((w.setCell ⟨g,0,none⟩ (.int .i64 n.a)).setCell ⟨g,1,none⟩ (.int .i64 n.b)).setCell ⟨g,2,none⟩ (.int .i64 n.c)).setCell ⟨g,3,none⟩ (.int .i64 n.d)).setCell ⟨g,4,none⟩ (.int .i64 k)
section
variable {w wx w':World} {g:Nat} {n n':Zw} {k k':Int}
theorem DB.below (h:DB w g n k wx) (hb:Below wx wx w'):DB w g n k w':=⟨h.1.below hb,aa h.2.1 hb,h.2.2⟩
theorem DB.alloc (h:DB w g n k wx) (o:Obj):DB w g n k (wx.alloc o):=h.below ((zW).alloc zR _)
theorem DB.cells (h:DB w g n k wx):wx.cell? ⟨g,0,none⟩=some (.int .i64 n.a)/\wx.cell? ⟨g,1,none⟩=some (.int .i64 n.b)/\wx.cell? ⟨g,2,none⟩=some (.int .i64 n.c)/\wx.cell? ⟨g,3,none⟩=some (.int .i64 n.d)/\wx.cell? ⟨g,4,none⟩=some (.int .i64 k)/\g < wx.heap.size:=⟨h.1.cell 0,h.1.cell 1,h.1.cell 2,h.1.cell 3,h.1.cell 4,h.1.lt⟩
theorem DB.free (h:DB w g n k wx):wx.frozen? ⟨g,0,none⟩=false/\wx.frozen? ⟨g,1,none⟩=false/\wx.frozen? ⟨g,2,none⟩=false/\wx.frozen? ⟨g,3,none⟩=false/\wx.frozen? ⟨g,4,none⟩=false:=⟨h.1.free 0,h.1.free 1,h.1.free 2,h.1.free 3,h.1.free 4⟩
theorem DB.set (h:DB w g n k wx) (n':Zw) (k':Int):DB w g n' k' (Ud wx g n' k') :=
 ⟨((((h.1.set_ 0 _).set_ 1 _).set_ 2 _).set_ 3 _).set_ 4 _,((((h.2.1.setCell h.2.2 _).setCell h.2.2 _).setCell h.2.2 _).setCell h.2.2 _).setCell h.2.2 _,h.2.2⟩
theorem DB.far4 {g':Nat} (h:DB w g n k wx) (hne:g ≠ g') (hg:w.heap.size<=g') (y:Zw):DB w g n k (set4 wx g' y) :=
 ⟨(((h.1.far hne _).far hne _).far hne _).far hne _,(((h.2.1.setCell hg _).setCell hg _).setCell hg _).setCell hg _,h.2.2⟩
end
theorem ZB.alloc {w wx:World} {g:Nat} {x:Zw} (h:ZB w g x wx) (o:Obj):ZB w g x (wx.alloc o):=h.below ((zW).alloc zR _)
theorem jq {x:Int} (h : -1073741824<=x/\x<=1073741824):fK x=true:=bG h.1 h.2
theorem Mg {x m:Zw} (h:nD x=some m):mj m=true:=by
 obtain ⟨h1,_,h3⟩:=ET h;obtain ⟨xa,xb,xc,xd⟩:=oV h1;subst h3;unfold mj
 dsimp only
 rw [jq zO,jq zO,jq zO,jq zO];rfl
def D3 (w:World) (x y:Dw) (wx:World):Prop:=DB w w.heap.size x.n x.e wx/\DB w (w.heap.size+1) y.n y.e wx/\DB w (w.heap.size+2) Zw.zero 0 wx
theorem D3.below {w wx w':World} {x y:Dw} (h:D3 w x y wx) (hb:Below wx wx w'):D3 w x y w':=⟨h.1.below hb,h.2.1.below hb,h.2.2.below hb⟩
theorem D3.alloc {w wx:World} {x y:Dw} (h:D3 w x y wx) (o:Obj):D3 w x y (wx.alloc o):=h.below ((zW).alloc zR _)
theorem D3.new (w:World) (x y:Dw):D3 w x y (((w.alloc (.cells #[x.n.a,x.n.b,x.n.c,x.n.d,x.e] 110)).alloc (.cells #[y.n.a,y.n.b,y.n.c,y.n.d,y.e] 110)).alloc (.cells #[Zw.zero.a,Zw.zero.b,Zw.zero.c,Zw.zero.d,(0:Int)] 110)):=by
 have h1:Below w w (w.alloc (.cells #[x.n.a,x.n.b,x.n.c,x.n.d,x.e] 110)):=(zW).alloc zR _;have h2:=h1.alloc h1.size (.cells #[y.n.a,y.n.b,y.n.c,y.n.d,y.e] 110);have hb:=h2.alloc h2.size (.cells #[Zw.zero.a,Zw.zero.b,Zw.zero.c,Zw.zero.d,(0:Int)] 110);exact GM
theorem GR {p:Prop} (h:p:=by
  go_wp2_with fail;refine (em n _).mono ?_;rintro e w2 ⟨rfl,b2⟩;rw [HZ.out];have X2:=zH (X1.below b2);obtain ⟨q0,q1,q2,q3,q4,ql⟩:=X2.cells;clear b2 X1 p0 p1 p2 p3 p4 pl;go_wp2_with fail;refine (el _ _ _ _).mono ?_;rintro e w3 ⟨rfl,rfl⟩;rw [HK.out];go_wp2_with fail;go_ret;exact ⟨rfl,X2.out.2.1⟩):p:=h
theorem gI (n:Zw) (k:Int) (w:World) (h:lm ⟨n,k⟩=true):Calls Tryz.prog 134 #[.agg #[n.a,n.b,n.c,n.d,k]] w fun e w'=>e=.returned (.bool true)/\Below w w w':=by
 obtain ⟨hz,hk,hor,hk0,hk1⟩:=jT h;have HZ:=zH hz;have HK:=zH hk;have HOR:=zH hor;have X0:=zH (show DB w w.heap.size n k (w.alloc (.cells #[n.a,n.b,n.c,n.d,k] 110)) from ⟨Bx.new w _ _,(zW).alloc zR _,zR⟩);clear h hz hk hor;go_enter Tryz.func134,Tryz.ntmps134;go_wp2_with fail;refine (GQ n _ HZ).mono ?_;rintro e w1 ⟨⟨m,⟨hm,rfl⟩ | ⟨hm,rfl⟩⟩,b1⟩
 ·have hk2:k=0:=by
   rcases HOR.out with h | h
   ·exact h
   ·rw [h] at hm;cases hm
  have X1:=zH ((X0.below b1).alloc (.cells #[m.a,m.b,m.c,m.d] 108));obtain ⟨p0,p1,p2,p3,p4,pl⟩:=(X0.below b1).cells;clear b1 X0 hm HOR;subst hk2;exact GR
 ·have X1:=zH ((X0.below b1).alloc (.cells #[(0:Int),(0:Int),(0:Int),(0:Int)] 108));obtain ⟨p0,p1,p2,p3,p4,pl⟩:=(X0.below b1).cells;clear b1 X0 hm HOR;rw [ru];exact GR
theorem GS {p:Prop} (h:p:=by simp [results,Tryz.results173,go_sem,c0,c1,c2,c3,c4]):p:=h
theorem GT (n:Zw) (K:Nat) (d:Dw) (w:World) (h:xO n K=some d):Calls Tryz.prog 173 #[.agg #[n.a,n.b,n.c,n.d],K] w fun e w'=>e=.returned (.tuple #[.agg #[d.n.a,d.n.b,d.n.c,d.n.d,d.e],.bool true])/\Below w w w':=by
 have hp:mj n=true/\ee K 0 120=true/\(m7 K n).2<=60/\d=⟨(m7 K n).1,((m7 K n).2:Nat)⟩:=by
  unfold xO at h;split at h
  ·rename_i h1;simp only [Bool.and_eq_true] at h1;split at h
   ·cases h
   ·rename_i h2;injection h with h;exact ⟨h1.1,h1.2,by rw [Int.toNat_natCast] at h2;omega,by rw [<- h,Int.toNat_natCast]⟩
  ·cases h
 obtain ⟨hz,hk,h60,hd⟩:=hp;obtain ⟨m,j,hmj⟩:∃ m j,m7 K n=(m,j):=⟨_,_,rfl⟩;rw [hmj] at h60 hd;have hK:K<=120:=by
  rcases eO K 0 120 with ⟨_,h1⟩ | ⟨h1,_⟩
  ·omega
  ·rw [h1] at hk;cases hk
 have HZ:=zH hz;have HK:=zH hk;have HM:=zH hmj;have h1:Below w w (w.alloc (.cells #[n.a,n.b,n.c,n.d] 108)):=(zW).alloc zR _;have hb:=h1.alloc h1.size (.cells #[Zw.zero.a,Zw.zero.b,Zw.zero.c,Zw.zero.d,(0:Int)] 110);have N0:=zH (show ZB w w.heap.size n ((w.alloc (.cells #[n.a,n.b,n.c,n.d] 108)).alloc (.cells #[Zw.zero.a,Zw.zero.b,Zw.zero.c,Zw.zero.d,(0:Int)] 110)) from ⟨(Bx.new w _ _).alloc _,hb,zR⟩);have R0:=zH (show DB w (w.heap.size+1) Zw.zero 0 ((w.alloc (.cells #[n.a,n.b,n.c,n.d] 108)).alloc (.cells #[Zw.zero.a,Zw.zero.b,Zw.zero.c,Zw.zero.d,(0:Int)] 110)) from ⟨Bx.new' zI,hb,zO⟩);subst hd;clear h hz hk hmj h1 hb;go_enter Tryz.func173,Tryz.ntmps173;go_wp2_with fail;refine (em n _).mono ?_;rintro e w1 ⟨rfl,b1⟩;rw [HZ.out];have N1:=zH (N0.below b1);have R1:=zH (R0.below b1);clear N0 R0 b1;go_wp2_with fail;refine (el _ _ _ _).mono ?_;rintro e w2 ⟨rfl,rfl⟩;rw [HK.out]
 go_wp2_with fail;go_loopg [1] K (fun r v wr=>∃ y:Zw,r<=K/\v=.int .i64 r/\mj y=true/\m7 r y=(m,j)/\ZB w w.heap.size y wr/\DB w (w.heap.size+1) Zw.zero 0 wr)
 case atStart=>exact ⟨n,zR,rfl,HZ.out,HM.out,N1.out,R1.out⟩
 case round =>
  obtain ⟨y,hrK,rfl,hy,hr,hn,hd⟩:=hrel;have HY:=zH hy;have HR:=zH hr;have NN:=zH hn;have RR:=zH hd;clear hy hr hn hd;obtain ⟨q0,q1,q2,q3,_⟩:=NN.cells;obtain ⟨r0,r1,r2,r3,r4,rl⟩:=RR.cells;obtain ⟨f0,f1,f2,f3,f4⟩:=RR.free;by_cases h0:gk=0
  ·subst h0;have e:=HR.out;rw [m7] at e;injection e with e1 e2;subst e1 e2
   go_wp2_with fail;obtain ⟨c0,c1,c2,c3,c4,_⟩:=(RR.set y 0).cells;simp only [Ud] at c0 c1 c2 c3 c4;exact bodyPost_ret (v:=.tuple #[.agg #[y.a,y.b,y.c,y.d,(0:Int)],.bool true]) GS rfl ⟨rfl,(RR.set _ _).2.1⟩
  ·obtain ⟨gr,rfl⟩:∃ gr,gk=gr+1:=⟨gk - 1,zO⟩;clear h0;go_wp2_with fail;refine (GQ y _ HY).mono ?_;rintro e w3 ⟨⟨m',⟨hm,rfl⟩ | ⟨hm,rfl⟩⟩,b3⟩
   ·have N3:=zH (NN.below b3);have R3:=zH (RR.below b3);obtain ⟨p0,p1,p2,p3,g0,g1,g2,g3⟩:=N3.cells;have hr2:m7 gr m'=(m,j):=by
     have e:=HR.out;rw [m7,hm] at e;exact e
    have HR2:=zH hr2;have HY2:=zH (Mg hm);have nl:=(NN.below b3).1.lt;clear hm hr2 b3 NN RR HR q0 q1 q2 q3 r0 r1 r2 r3 r4 rl f0 f1 f2 f3 f4;go_wp2_with fail;go_roundg gr
    case measure=>omega
    case rel=>exact ⟨m',zO,by go_num,HY2.out,HR2.out,(N3.set m').alloc _,(R3.far4 zO zR m').alloc _⟩
   ·have e:=HR.out;rw [m7,hm] at e;injection e with e1 e2;subst e1 e2
    have N3:=zH ((NN.below b3).alloc (.cells #[(0:Int),(0:Int),(0:Int),(0:Int)] 108));have R3:=zH ((RR.below b3).alloc (.cells #[(0:Int),(0:Int),(0:Int),(0:Int)] 108));obtain ⟨p0,p1,p2,p3,_⟩:=N3.cells;obtain ⟨s0,s1,s2,s3,s4,sl⟩:=R3.cells;obtain ⟨g0,g1,g2,g3,g4⟩:=R3.free;rw [ru];clear hm b3 NN RR HR q0 q1 q2 q3 r0 r1 r2 r3 r4 rl f0 f1 f2 f3 f4;go_wp2_with fail;obtain ⟨c0,c1,c2,c3,c4,_⟩:=(R3.set y ((gr:Int)+1)).cells;simp only [Ud] at c0 c1 c2 c3 c4;exact bodyPost_ret (v:=.tuple #[.agg #[y.a,y.b,y.c,y.d,.int .i64 ((gr:Int)+1)],.bool true]) GS rfl ⟨rfl,(R3.set _ _).2.1⟩
theorem Un (n:Zw) (T:Nat) (m:Zw) (w:World) (hT:T<=1000) (h:CO T n=some m):Calls Tryz.prog 174 #[.agg #[n.a,n.b,n.c,n.d],T] w fun e w'=>e=.returned (.tuple #[.agg #[m.a,m.b,m.c,m.d],.bool true])/\Below w w w':=by
 have HM:=zH h;have h1:Below w w (w.alloc (.cells #[n.a,n.b,n.c,n.d] 108)):=(zW).alloc zR _;have hb:=h1.alloc h1.size (.cells #[Zw.zero.a,Zw.zero.b,Zw.zero.c,Zw.zero.d] 108);have Z0:=zH (Z2.new w n);clear h h1 hb;go_enter Tryz.func174,Tryz.ntmps174;go_wp2_with fail;go_loopg [6] T (fun r v wr=>∃ (i:Nat) (y:Zw),i+r=T/\v=.int .i64 i/\CO r y=some m/\Z2 w y Zw.zero wr)
 case atStart=>exact ⟨0,n,zO,rfl,HM.out,Z0.out⟩
 case round =>
  obtain ⟨i,y,hi,rfl,hu,hz⟩:=hrel;have HU:=zH hu;have ZZ:=zH hz;clear hu hz;obtain ⟨q0,q1,q2,q3,_⟩:=ZZ.out.1.cells;obtain ⟨r0,r1,r2,r3,f0,f1,f2,f3⟩:=ZZ.out.2.cells;by_cases h0:gk=0
  ·subst h0;obtain rfl:i=T:=zO;have e:=HU.out;rw [CO] at e;injection e with e;subst e
   go_wp2_with fail;obtain ⟨c0,c1,c2,c3,_⟩:=(ZZ.out.2.set y).cells;simp only [set4] at c0 c1 c2 c3;exact bodyPost_ret (v:=.tuple #[.agg #[y.a,y.b,y.c,y.d],.bool true]) (by simp [results,Tryz.results174,go_sem,c0,c1,c2,c3]) rfl ⟨rfl,(ZZ.out.2.set _).2.1⟩
  ·obtain ⟨gr,rfl⟩:∃ gr,gk=gr+1:=⟨gk - 1,zO⟩;clear h0;have e:=HU.out;rw [CO] at e;obtain ⟨y2,hy2⟩:∃ y2,oT y pO=some y2:=by
    cases hq:oT y pO with
    |none=>rw [hq] at e;cases e
    |some y2=>exact ⟨y2,rfl⟩
   rw [hy2] at e;have HU2:=zH (show CO gr y2=some m from e);have HY2:=zH hy2;clear e hy2 HU;have hiT:(i:Int) < (T:Int):=zO;go_wp2_with fail;refine (GN y pO y2 _ HY2).mono ?_;rintro e w3 ⟨rfl,b3⟩;have Z3':=zH (ZZ.below b3);obtain ⟨p0,p1,p2,p3,g0,g1,g2,g3⟩:=Z3'.out.1.cells;have nl:=Z3'.out.1.1.lt;clear b3 ZZ q0 q1 q2 q3 r0 r1 r2 r3 f0 f1 f2 f3;go_wp2_with fail;go_roundg gr
   case measure=>omega
   case rel=>exact ⟨i+1,y2,zO,by go_num,HU2.out,(Z3'.out.1.set y2).alloc _,(Z3'.out.2.far zO zR y2).alloc _⟩
end Go.Proofs.YtmenmibfkojnoaaGreat
namespace Go.Proofs.YtmenmibfkojnoaaGreat
open Go.RowKit
set_option linter.unusedVariables false
theorem QC (a b:Nat) (w:World):Calls Tryz.prog 123 #[a,b] w fun e w'=>e=.returned (.int .i64 (max a b:Nat))/\w=w':=by
 by_cases h:b < a
 ·rw [Nat.max_eq_left zO];go_enter Tryz.func123,Tryz.ntmps123;go_wp2;go_ret;exact ⟨rfl,rfl⟩
 ·rw [Nat.max_eq_right zO];go_enter Tryz.func123,Tryz.ntmps123;go_wp2;go_ret;exact ⟨rfl,rfl⟩
theorem EV {x y z:Dw} (h:iR x y=some z):lm x=true/\lm y=true/\∃ n,oT x.n y.n=some n/\xO n (x.e+y.e)=some z:=by
 unfold iR at h;split at h
 ·rename_i h1;simp only [Bool.and_eq_true] at h1;cases hm:oT x.n y.n with
  |none=>rw [hm] at h;cases h
  |some n=>rw [hm] at h;exact ⟨h1.1,h1.2,n,rfl,h⟩
 ·cases h
theorem GU (a b:Nat):Ar a b=(max a b:Nat):=by
 unfold Ar;split<;>omega
theorem EW {x y z:Dw} {ex ey:Nat} (hx:x.e=ex) (hy:y.e=ey) (h:rp x y=some z):lm x=true/\lm y=true/\∃ a b c,CO (max ex ey - ex) x.n=some a/\CO (max ex ey - ey) y.n=some b/\xN a b=some c/\xO c (max ex ey:Nat)=some z:=by
 unfold rp at h;split at h
 ·rename_i h1;simp only [Bool.and_eq_true] at h1;rw [hx,hy,GU,show (((max ex ey:Nat):Int) - (ex:Int)).toNat=max ex ey - ex by omega,show (((max ex ey:Nat):Int) - (ey:Int)).toNat=max ex ey - ey by omega] at h;cases ha:CO (max ex ey - ex) x.n with
  |none=>rw [ha] at h;cases h
  |some a =>
   cases hb:CO (max ex ey - ey) y.n with
   |none=>rw [ha,hb] at h;cases h
   |some b =>
    rw [ha,hb] at h;simp only at h;cases hc:xN a b with
    |none=>rw [hc] at h;cases h
    |some c=>rw [hc] at h;exact ⟨h1.1,h1.2,a,b,c,rfl,rfl,hc,h⟩
 ·cases h
theorem GV (x y z:Dw) (w:World) (h:iR x y=some z):Calls Tryz.prog 137 #[.agg #[x.n.a,x.n.b,x.n.c,x.n.d,x.e],.agg #[y.n.a,y.n.b,y.n.c,y.n.d,y.e]] w fun e w'=>e=.returned (.tuple #[.agg #[z.n.a,z.n.b,z.n.c,z.n.d,z.e],.bool true])/\Below w w w':=by
 obtain ⟨hx,hy,n,hn,hz⟩:=EV h;obtain ⟨_,_,_,x0,x1⟩:=jT (n:=x.n) (k:=x.e) hx;obtain ⟨_,_,_,y0,y1⟩:=jT (n:=y.n) (k:=y.e) hy;have HX:=zH hx;have HY:=zH hy;have HN:=zH hn;obtain ⟨S,hS⟩:∃ S:Nat,x.e+y.e=S:=⟨(x.e+y.e).toNat,zO⟩;rw [hS] at hz;have HZ:=zH hz;have HS:=zH hS;have D0:=zH (D3.new w x y);clear h hx hy hn hz hS;go_enter Tryz.func137,Tryz.ntmps137;go_wp2_with fail;refine (GN x.n y.n n _ HN).mono ?_;rintro e w1 ⟨rfl,b1⟩;have D1:=zH ((D0.below b1).alloc (.cells #[n.a,n.b,n.c,n.d] 108));have L1:=zH (Bx.new w1 108 #[n.a,n.b,n.c,n.d]);clear b1 D0;obtain ⟨p0,p1,p2,p3,p4,pl⟩:=D1.out.1.cells;go_wp2_with fail;refine (gI x.n x.e _ HX).mono ?_;rintro e w2 ⟨rfl,b2⟩;have D2:=zH (D1.below b2);have L2:=zH (L1.below b2);clear b2 D1 L1 p0 p1 p2 p3 p4 pl;obtain ⟨q0,q1,q2,q3,q4,ql⟩:=D2.out.2.1.cells;go_wp2_with fail;refine (gI y.n y.e _ HY).mono ?_
 rintro e w3 ⟨rfl,b3⟩;have D3':=zH (D2.below b3);have L3:=zH (L2.below b3);clear b3 D2 L2 q0 q1 q2 q3 q4 ql;obtain ⟨p0,p1,p2,p3,p4,pl⟩:=D3'.out.1.cells;obtain ⟨q0,q1,q2,q3,q4,ql⟩:=D3'.out.2.1.cells;obtain ⟨l0,l1,l2,l3,_⟩:=L3.four;go_wp2_with fail;rw [HS.out];refine (GT n S z _ HZ).mono ?_;rintro e w4 ⟨rfl,b4⟩;have D4:=zH (D3'.out.below b4);clear b4 D3' L3 p0 p1 p2 p3 p4 pl q0 q1 q2 q3 q4 ql l0 l1 l2 l3;obtain ⟨r0,r1,r2,r3,r4,rl⟩:=D4.out.2.2.cells;obtain ⟨f0,f1,f2,f3,f4⟩:=D4.out.2.2.free;go_wp2_with fail;obtain ⟨c0,c1,c2,c3,c4,_⟩:=(D4.out.2.2.set z.n z.e).cells;simp only [Ud] at c0 c1 c2 c3 c4;exact bodyPost_ret (v:=.tuple #[.agg #[z.n.a,z.n.b,z.n.c,z.n.d,z.e],.bool true]) (by simp [results,Tryz.results137,go_sem,c0,c1,c2,c3,c4]) rfl ⟨rfl,(D4.out.2.2.set _ _).2.1⟩
theorem QD (x y z:Dw) (w:World) (h:rp x y=some z):Calls Tryz.prog 138 #[.agg #[x.n.a,x.n.b,x.n.c,x.n.d,x.e],.agg #[y.n.a,y.n.b,y.n.c,y.n.d,y.e]] w fun e w'=>e=.returned (.tuple #[.agg #[z.n.a,z.n.b,z.n.c,z.n.d,z.e],.bool true])/\Below w w w':=by
 have hxy:lm x=true/\lm y=true:=by
  unfold rp at h;split at h
  ·rename_i h1;simpa using h1
  ·cases h
 obtain ⟨_,_,_,x0,x1⟩:=jT (n:=x.n) (k:=x.e) hxy.1;obtain ⟨_,_,_,y0,y1⟩:=jT (n:=y.n) (k:=y.e) hxy.2;clear hxy;obtain ⟨nx,kx⟩:=x;obtain ⟨ny,ky⟩:=y;simp only at x0 x1 y0 y1;obtain ⟨ex,rfl⟩:∃ ex:Nat,kx=ex:=⟨kx.toNat,zO⟩;obtain ⟨ey,rfl⟩:∃ ey:Nat,ky=ey:=⟨ky.toNat,zO⟩;obtain ⟨hx,hy,a,b,c,ha,hb,hc,hz⟩:=EW (ex:=ex) (ey:=ey) rfl rfl h;obtain ⟨M,hM⟩:∃ M,max ex ey=M:=⟨_,rfl⟩;obtain ⟨t1,ht1⟩:∃ t,M - ex=t:=⟨_,rfl⟩;obtain ⟨t2,ht2⟩:∃ t,M - ey=t:=⟨_,rfl⟩;rw [hM,ht1] at ha;rw [hM,ht2] at hb;rw [hM] at hz;have E1:=zH (show (M:Int) - (ex:Int)=(t1:Int) by omega);have E2:=zH (show (M:Int) - (ey:Int)=(t2:Int) by omega);have hM60:M<=60:=zO;have hb1:t1<=60:=zO;have hb2:t2<=60:=zO;have HX:=zH hx;have HY:=zH hy;have HA:=zH ha;have HB:=zH hb;have HC:=zH hc;have HZ:=zH hz;have HM:=zH hM;have D0:=zH (D3.new w ⟨nx,ex⟩ ⟨ny,ey⟩);clear h hx hy ha hb hc hz hM ht1 ht2
 go_enter Tryz.func138,Tryz.ntmps138;go_wp2_with fail;refine (gI nx ex _ HX).mono ?_;rintro e w2 ⟨rfl,b2⟩;have D2:=zH (D0.below b2);clear b2 D0;obtain ⟨q0,q1,q2,q3,q4,ql⟩:=D2.out.2.1.cells;go_wp2_with fail;refine (gI ny ey _ HY).mono ?_;rintro e w3 ⟨rfl,b3⟩;have D3':=zH (D2.below b3);clear b3 D2 q0 q1 q2 q3 q4 ql;obtain ⟨p0,p1,p2,p3,p4,pl⟩:=D3'.out.1.cells;obtain ⟨q0,q1,q2,q3,q4,ql⟩:=D3'.out.2.1.cells;go_wp2_with fail;refine (QC ex ey _).mono ?_;rintro e w4 ⟨rfl,rfl⟩;rw [HM.out];go_wp2_with fail;rw [E1.out];refine (Un nx t1 a _ zO HA).mono ?_;rintro e w5 ⟨rfl,b5⟩;have D5:=zH ((D3'.out.below b5).alloc (.cells #[a.a,a.b,a.c,a.d] 108));have L5:=zH (Bx.new w5 108 #[a.a,a.b,a.c,a.d]);clear b5 D3' p0 p1 p2 p3 p4 pl q0 q1 q2 q3 q4 ql;obtain ⟨q0,q1,q2,q3,q4,ql⟩:=D5.out.2.1.cells;go_wp2_with fail;rw [E2.out];refine (Un ny t2 b _ zO HB).mono ?_;rintro e w6 ⟨rfl,b6⟩
 have D6:=zH ((D5.below b6).alloc (.cells #[b.a,b.b,b.c,b.d] 108));have K6:=zH (L5.below b6);have L6:=zH ((L5.below b6).alloc (.cells #[b.a,b.b,b.c,b.d] 108));have L7:=zH (Bx.new w6 108 #[b.a,b.b,b.c,b.d]);clear b6 D5 L5 q0 q1 q2 q3 q4 ql;obtain ⟨l0,l1,l2,l3,_⟩:=K6.four;have ll:=K6.lt;go_wp2_with fail;refine (Qz a b c _ HC).mono ?_;rintro e w7 ⟨rfl,b7⟩;have D7:=zH ((D6.below b7).alloc (.cells #[c.a,c.b,c.c,c.d] 108));clear b7 D6 L6 L7 K6 l0 l1 l2 l3 ll;go_wp2_with fail;refine (GT c M z _ HZ).mono ?_;rintro e w8 ⟨rfl,b8⟩;have D8:=zH (D7.below b8);clear b8 D7;obtain ⟨r0,r1,r2,r3,r4,rl⟩:=D8.out.2.2.cells;obtain ⟨f0,f1,f2,f3,f4⟩:=D8.out.2.2.free;go_wp2_with fail;obtain ⟨c0,c1,c2,c3,c4,_⟩:=(D8.out.2.2.set z.n z.e).cells;simp only [Ud] at c0 c1 c2 c3 c4
 exact bodyPost_ret (v:=.tuple #[.agg #[z.n.a,z.n.b,z.n.c,z.n.d,z.e],.bool true]) (by simp [results,Tryz.results138,go_sem,c0,c1,c2,c3,c4]) rfl ⟨rfl,(D8.out.2.2.set _ _).2.1⟩
end Go.Proofs.YtmenmibfkojnoaaGreat
