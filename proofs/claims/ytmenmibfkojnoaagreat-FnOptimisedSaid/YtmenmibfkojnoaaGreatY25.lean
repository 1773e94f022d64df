/- Plain: the gates that reduce a tableau; . -/
import Derived.Test.YtmenmibfkojnoaaGreatY20
import Derived.Test.YtmenmibfkojnoaaGreatY23
import Derived.Test.YtmenmibfkojnoaaGreatY24
set_option maxHeartbeats 16000000
set_option maxRecDepth 100000
namespace Go.Proofs.YtmenmibfkojnoaaGreat
set_option linter.unusedVariables false
abbrev df:=List Pq × List Gt
def fF (r:List Pq) (i:Nat):Pq:=r.getD i ⟨0,0,0⟩
def xB (r:List Pq) (i k:Nat):Bool:=aZ (fF r i).x k
def zB (r:List Pq) (i k:Nat):Bool:=aZ (fF r i).z k
def iK (n:Nat) (s:df) (k:Int) (a b:Nat):df:=(di n ⟨k,a,b,0⟩ s.1,s.2++[⟨k,a,b,0⟩])
def cm (f:Nat->df->df):Nat->Nat->df->df
 |_,0,s=>s
 |k,m+1,s=>cm f (k+1) m (f k s)
def f1 (n q:Nat) (k:Nat) (s:df):df:=if (xB s.1 q k && zB s.1 q k)=true then iK n s 5 k 0 else if zB s.1 q k=true then iK n s 4 k 0 else s
def f2 (n q:Nat) (k:Nat) (s:df):df:=if xB s.1 q k=true then iK n s 9 q k else s
def f3 (n q:Nat) (k:Nat) (s:df):df:=if (xB s.1 (q+n) k && zB s.1 (q+n) k)=true then iK n (iK n s 5 k 0) 4 k 0 else if xB s.1 (q+n) k=true then iK n s 4 k 0 else s
def f4 (n q:Nat) (k:Nat) (s:df):df:=if zB s.1 (q+n) k=true then iK n s 9 k q else s
def kZ (r:List Pq) (q:Nat):Nat->Nat->Nat
 |k,0=>k
 |k,m+1=>if xB r q k=true then k else kZ r q (k+1) m
def Ma (n q:Nat) (s:df):df:=if kZ s.1 q q (n - 1 - q)=q then s else iK n s 11 q (kZ s.1 q q (n - 1 - q))
def hH (n q:Nat) (s:df):df:=if xB s.1 (q+n) q=true then iK n (iK n (iK n s 4 q 0) 5 q 0) 4 q 0 else s
def pZ (n q:Nat) (s:df):df:=if (fF s.1 q).p=2 then iK n s 3 q 0 else s
def pX (n q:Nat) (s:df):df:=if (fF s.1 (q+n)).p=2 then iK n s 1 q 0 else s
def fm (n q:Nat) (s:df):df:=cm (f2 n q) (q+1) (n - (q+1)) (Ma n q (cm (f1 n q) q (n - q) s))
def fe (n q:Nat) (s:df):df:=pX n q (pZ n q (hH n q (cm (f4 n q) (q+1) (n - (q+1)) (cm (f3 n q) (q+1) (n - (q+1)) s))))
def nj (n:Nat):Nat->Nat->df->df
 |_,0,s=>s
 |q,m+1,s=>nj n (q+1) m (fe n q (fm n q s))
def lc (n:Nat) (r:List Pq):List Gt:=(nj n 0 n (r,[])).2
def kD (n:Nat) (s:df):Prop:=ed n s.1/\∀ g ∈ s.2,bF n g=true/\bh g.k=true
def oneKs:List Int:=[1,3,4,5]
def Sa (n:Nat):Bool:=(List.range n).all fun q=>oneKs.all fun k=>bF n ⟨k,q,0,0⟩ && bh k
def Sb (n:Nat):Bool:=(List.range n).all fun a=>(List.range n).all fun b=>a == b || (bF n ⟨9,a,b,0⟩ && bF n ⟨11,a,b,0⟩)
theorem Qa {n:Nat} (h:1<=n/\n<=4):Sa n=true/\Sb n=true:=by
 obtain rfl | rfl | rfl | rfl:n=1\/n=2\/n=3\/n=4:=zO
 all_goals exact ⟨by decide +kernel,by decide +kernel⟩
theorem aP {n q:Nat} {k:Int} (h:1<=n/\n<=4) (hq:q < n) (hk:k ∈ oneKs):bF n ⟨k,q,((0:Nat):Int),0⟩=true/\bh k=true:=by
 have:=List.all_eq_true.1 (List.all_eq_true.1 (Qa h).1 q (List.mem_range.2 hq)) k hk;simp only [Bool.and_eq_true] at this;exact this
theorem iC {n a b:Nat} (h:1<=n/\n<=4) (ha:a < n) (hb:b < n) (hab:a ≠ b):bF n ⟨9,a,b,0⟩=true/\bF n ⟨11,a,b,0⟩=true:=by
 have:=List.all_eq_true.1 (List.all_eq_true.1 (Qa h).2 a (List.mem_range.2 ha)) b (List.mem_range.2 hb);rw [show (a == b)=false by simpa using hab,Bool.false_or] at this;simp only [Bool.and_eq_true] at this;exact this
theorem pi {n:Nat} {s:df} {k:Int} {a b:Nat} (hs:kD n s) (hg:bF n ⟨k,a,b,0⟩=true) (hc:bh k=true):kD n (iK n s k a b):=by
 refine ⟨iB hg hc hs.1,fun g hg'=>?_⟩;rcases List.mem_append.1 hg' with h | h
 ·exact hs.2 g h
 ·rw [List.mem_singleton.1 h];exact ⟨hg,hc⟩
theorem mS {n q:Nat} {s:df} {k:Int} (hn:1<=n/\n<=4) (hs:kD n s) (hq:q < n) (hk:k ∈ oneKs):kD n (iK n s k q 0):=pi hs (aP hn hq hk).1 (aP hn hq hk).2
theorem sn {n:Nat} {f:Nat->df->df} (hf:∀ k s,k < n->kD n s->kD n (f k s)):∀ (k m:Nat) (s:df),k+m<=n->kD n s->kD n (cm f k m s)
 |_,0,s,_,h=>h
 |k,m+1,s,hk,h=>sn hf (k+1) m _ zO (hf k s zO h)
theorem pk {n q:Nat} {f:Nat->df->df} (hf:∀ k s,q < k->k < n->kD n s->kD n (f k s)):∀ (k m:Nat) (s:df),q < k->k+m<=n->kD n s->kD n (cm f k m s)
 |_,0,s,_,_,h=>h
 |k,m+1,s,hq,hk,h=>pk hf (k+1) m _ zO zO (hf k s hq zO h)
theorem jN {p:Prop} (h:p:=by simp [oneKs]):p:=h
theorem UQ {n q k:Nat} {s:df} (hn:1<=n/\n<=4) (hk:k < n) (hs:kD n s):kD n (f1 n q k s):=by
 unfold f1;split
 ·exact mS hn hs hk jN
 ·split
  ·exact mS hn hs hk jN
  ·exact hs
theorem UR {n q k:Nat} {s:df} (hn:1<=n/\n<=4) (hq:q < k) (hk:k < n) (hs:kD n s):kD n (f2 n q k s):=by
 unfold f2;split
 ·exact pi hs (iC hn zO hk zO).1 zD
 ·exact hs
theorem US {n q k:Nat} {s:df} (hn:1<=n/\n<=4) (hk:k < n) (hs:kD n s):kD n (f3 n q k s):=by
 unfold f3;split
 ·exact mS hn (mS hn hs hk jN) hk jN
 ·split
  ·exact mS hn hs hk jN
  ·exact hs
theorem UT {n q k:Nat} {s:df} (hn:1<=n/\n<=4) (hq:q < k) (hk:k < n) (hs:kD n s):kD n (f4 n q k s):=by
 unfold f4;split
 ·exact pi hs (iC hn hk zO zO).1 zD
 ·exact hs
theorem qQ (r:List Pq) (q:Nat):∀ (m k:Nat),k<=kZ r q k m/\kZ r q k m<=k+m
 |0,k=>⟨zR,by simp [kZ]⟩
 |m+1,k=>by
  rw [kZ];split
  ·exact ⟨zR,zO⟩
  ·have:=qQ r q m (k+1);omega
theorem Sc {n q:Nat} {s:df} (hn:1<=n/\n<=4) (hq:q < n) (hs:kD n s):kD n (Ma n q s):=by
 have hb:=qQ s.1 q (n - 1 - q) q;unfold Ma;split
 ·exact hs
 ·rename_i h;exact pi hs (iC hn hq zO (fun e=>h e.symm)).2 zD
theorem UV {n q:Nat} {s:df} (hn:1<=n/\n<=4) (hq:q < n) (hs:kD n s):kD n (hH n q s):=by
 unfold hH;split
 ·exact mS hn (mS hn (mS hn hs hq jN) hq jN) hq jN
 ·exact hs
theorem UW {n q:Nat} {s:df} (hn:1<=n/\n<=4) (hq:q < n) (hs:kD n s):kD n (pZ n q s):=by
 unfold pZ;split
 ·exact mS hn hs hq jN
 ·exact hs
theorem UX {n q:Nat} {s:df} (hn:1<=n/\n<=4) (hq:q < n) (hs:kD n s):kD n (pX n q s):=by
 unfold pX;split
 ·exact mS hn hs hq jN
 ·exact hs
theorem pm {n q:Nat} {s:df} (hn:1<=n/\n<=4) (hq:q < n) (hs:kD n s):kD n (fm n q s) :=
 pk (q:=q) (fun k s h1 h2 h3=>UR hn h1 h2 h3) _ _ _ zO zO (Sc hn hq (sn (fun k s h1 h2=>UQ hn h1 h2) _ _ _ zO hs))
theorem so {n q:Nat} {s:df} (hn:1<=n/\n<=4) (hq:q < n) (hs:kD n s):kD n (fe n q s) :=
 UX hn hq (UW hn hq (UV hn hq (pk (q:=q) (fun k s h1 h2 h3=>UT hn h1 h2 h3) _ _ _ zO zO (sn (fun k s h1 h2=>US hn h1 h2) _ _ _ zO hs))))
theorem Dv {n:Nat} (hn:1<=n/\n<=4):∀ (m q:Nat) (s:df),q+m<=n->kD n s->kD n (nj n q m s)
 |0,q,s,_,h=>h
 |m+1,q,s,hq,h=>Dv hn m (q+1) _ zO (so hn zO (pm hn zO h))
theorem Dy {n:Nat} {r:List Pq} (hn:1<=n/\n<=4) (h:ed n r):∀ g ∈ lc n r,bF n g=true/\bh g.k=true:=(Dv hn n 0 (r,[]) zO ⟨h,zI⟩).2
theorem gS (n:Nat) (s:df) (k:Int) (a b:Nat):(iK n s k a b).2.length=s.2.length+1:=by simp [iK]
theorem Sd (n q k:Nat) (s:df):(f1 n q k s).2.length<=s.2.length+1:=by unfold f1;(repeat' split)<;>simp [gS]
theorem Se (n q k:Nat) (s:df):(f2 n q k s).2.length<=s.2.length+1:=by unfold f2;(repeat' split)<;>simp [gS]
theorem Sf (n q k:Nat) (s:df):(f3 n q k s).2.length<=s.2.length+2:=by unfold f3;(repeat' split)<;>simp [gS]
theorem Sg (n q k:Nat) (s:df):(f4 n q k s).2.length<=s.2.length+1:=by unfold f4;(repeat' split)<;>simp [gS]
theorem Nu (n q:Nat) (s:df):(Ma n q s).2.length<=s.2.length+1:=by unfold Ma;(repeat' split)<;>simp [gS]
theorem Sh (n q:Nat) (s:df):(hH n q s).2.length<=s.2.length+3:=by unfold hH;(repeat' split)<;>simp [gS]
theorem Si (n q:Nat) (s:df):(pZ n q s).2.length<=s.2.length+1:=by unfold pZ;(repeat' split)<;>simp [gS]
theorem Sj (n q:Nat) (s:df):(pX n q s).2.length<=s.2.length+1:=by unfold pX;(repeat' split)<;>simp [gS]
theorem j9 {f:Nat->df->df} {c:Nat} (hf:∀ k s,(f k s).2.length<=s.2.length+c):∀ (m k:Nat) (s:df),(cm f k m s).2.length<=s.2.length+c * m
 |0,k,s=>zR
 |m+1,k,s=>by
  have h1:=j9 hf m (k+1) (f k s);have h2:=hf k s;rw [cm,Nat.mul_succ];omega
theorem Bk {n q:Nat} (hn:n<=4) (s:df):(fm n q s).2.length<=s.2.length+9:=by
 unfold fm;have h1:=j9 (Sd n q) (n - q) q s;have h2:=Nu n q (cm (f1 n q) q (n - q) s);have h3:=j9 (Se n q) (n - (q+1)) (q+1) (Ma n q (cm (f1 n q) q (n - q) s));omega
theorem yN {n q:Nat} (hn:n<=4) (s:df):(fe n q s).2.length<=s.2.length+14+3:=by
 unfold fe;have h1:=j9 (Sf n q) (n - (q+1)) (q+1) s;have h2:=j9 (Sg n q) (n - (q+1)) (q+1) (cm (f3 n q) (q+1) (n - (q+1)) s);have h3:=Sh n q (cm (f4 n q) (q+1) (n - (q+1)) (cm (f3 n q) (q+1) (n - (q+1)) s));have h4:=Si n q (hH n q (cm (f4 n q) (q+1) (n - (q+1)) (cm (f3 n q) (q+1) (n - (q+1)) s)));have h5:=Sj n q (pZ n q (hH n q (cm (f4 n q) (q+1) (n - (q+1)) (cm (f3 n q) (q+1) (n - (q+1)) s))));omega
theorem yO {n:Nat} (hn:n<=4):∀ (m q:Nat) (s:df),(nj n q m s).2.length<=s.2.length+26 * m
 |0,q,s=>zR
 |m+1,q,s=>by
  have h1:=yO hn m (q+1) (fe n q (fm n q s));have h2:=yN (q:=q) hn (fm n q s);have h3:=Bk (q:=q) hn s;rw [nj];omega
theorem eX {f:Nat->df->df} {n k m:Nat} {s S:df} (hlt:k < n) (hk:k+m=n) (h:cm f k m s=S):cm f (k+1) (m - 1) (f k s)=S:=by
 obtain ⟨j,rfl⟩:∃ j,m=j+1:=⟨m - 1,zO⟩;rw [cm] at h;exact h
theorem uw {r:List Pq} {q k n F:Nat} (hlt:k < n - 1) (h:kZ r q k (n - 1 - k)=F):(if xB r q k=true then k else kZ r q (k+1) (n - 1 - (k+1)))=F:=by
 obtain ⟨j,hj⟩:∃ j,n - 1 - k=j+1:=⟨n - 1 - k - 1,zO⟩;rw [hj,kZ] at h;rw [show n - 1 - (k+1)=j by omega];exact h
def ir (l:List Gt) (n:Nat):List Gt:=dk (lc n (bH n l (ch n)))
open Go.RowKit
theorem Jq {l r s:List Gt} {g h:Gt} {i k:Nat} (hd:l.drop i=g :: r) (hdk:l.drop k=h :: s) (hik:i < k) (hk:k < l.length) (hf:bf l 0=some (i,k)) :
  af (d9 l)=((af (l.take i)++af ((l.drop (i+1)).take (k - (i+1))))++af (aU g h))++af (l.drop (k+1)) ∧
  (d9 l).length=i+(k - (i+1))+(aU g h).length+(l.length - (k+1))/\eR l=true:=by
 have e:d9 l=l.take i++((l.drop (i+1)).take (k - (i+1))++(aU g h++l.drop (k+1))):=by
  simp only [d9,hf];unfold jZ;rw [iH hd,iH hdk]
 refine ⟨by rw [e];simp [av],?_,by simp [eR,hf]⟩;rw [e];simp only [List.length_append,List.length_take,List.length_drop];omega
theorem vV {p:Prop} (h:p:=by have:=H.out.1;omega):p:=h
theorem sq (A:Option Addr) (n c:Nat) (l:List Gt) (w:World) (h:RdG w A n l) (hnc:n<=c) (hn:n<=1099511627776) :
  Calls Tryz.prog 45 #[.slice A n c] w (mO (d9 l) (eR l) w):=by
 have H:=zH h;clear h;go_enter Tryz.func45,Tryz.ntmps45;go_wp2_with fail;go_loopg [12] n (fun m j wr=>∃ i:Nat,i+m=n/\j=.int .i64 i/\bf (l.drop i) i=bf l 0/\Below w w wr)
 case atStart=>exact ⟨0,zO,rfl,rfl,zW⟩
 case round =>
  obtain ⟨i,hi,rfl,hs,hb⟩:=hrel;have HS:=zH hs;clear hs;by_cases hlt:i < n
  ·obtain ⟨b,off,g,rfl,hB,hd,c0,c1,c2,c3⟩:=(H.below hb).at_ hlt;have HD:=zH hd;clear hd;have BX:=zH (Bx.new wr 39 #[g.k,g.a,g.b,g.c]);have HB0:=hb.alloc hb.size g;go_wp2_with fail;clear c0 c1 c2 c3;obtain ⟨wo,rfl⟩:∃ wo,wo=wr:=⟨_,rfl⟩;obtain ⟨go,rfl⟩:∃ go,go=gk:=⟨_,rfl⟩;go_loopg [6] (n - (i+1)) (fun m j wr=>∃ k:Nat,k+m=n/\i+1<=k/\j=.int .i64 k/\dF g (l.drop k) k=dF g (l.drop (i+1)) (i+1)/\Bx wr wo 39 #[g.k,g.a,g.b,g.c]/\Below w w wr)
   case atStart=>exact ⟨i+1,zO,zO,by go_num,rfl,BX.out,HB0⟩
   case round =>
    obtain ⟨k,hk,hik,rfl,hs,bx,hb⟩:=hrel;have HSC:=zH hs;have BXX:=zH bx;clear hs bx;have NXT:Hid (dF g (l.drop (i+1)) (i+1)=none->bf (l.drop (i+1)) (i+1)=bf l 0):=zH fun hsc=>by
     rw [<- HS.out,HD.out,bf,hsc]
    by_cases hlk:k < n
    ·obtain ⟨p0,p1,p2,p3,_,_,_,_⟩:=BXX.four;have hd2:=ax (l:=l) (k:=k) vV;obtain ⟨h,hh⟩:∃ h,l[k]'vV=h:=⟨_,rfl⟩;rw [hh] at hd2;have HD2:=zH hd2;clear hd2 hh;obtain ⟨_,q0,q1,q2,q3⟩:=(H.below hb).cellsAt HD2.out;have hk1:(k:Int) < (n:Int):=zO;have hml:=iA g h;go_wp2_with fail
     go_region_held3 (fun w'=>w'.cell? ⟨wo,0,none⟩=some (.int .i64 g.k)/\w'.cell? ⟨wo,1,none⟩=some (.int .i64 g.a)/\w'.cell? ⟨wo,2,none⟩=some (.int .i64 g.b)/\w'.cell? ⟨wo,3,none⟩=some (.int .i64 g.c)/\w'.cell? ⟨b,off+k * 4,none⟩=some (.int .i64 h.k)/\w'.cell? ⟨b,off+k * 4+1,none⟩=some (.int .i64 h.a)/\w'.cell? ⟨b,off+k * 4+2,none⟩=some (.int .i64 h.b)/\w'.cell? ⟨b,off+k * 4+3,none⟩=some (.int .i64 h.c))
      (first | go_keep | exact ⟨x0,x1,x2,x3,y0,y1,y2,y3⟩)
      (first | (go_at_call 83;(with_reducible refine (vK g h _).mono ?_);rintro e w1 ⟨A1,c1,rfl,o1,b1⟩;have b01:=hb.drew.trans (b1.mono hb.size);have bx1:=BXX.out.drew.below b1;have ⟨x0,x1,x2,x3,_⟩:=bx1.four;have ⟨_,y0,y1,y2,y3⟩:=(H.out.below b01).cellsAt HD2.out))
     clear p0 p1 p2 p3 q0 q1 q2 q3;cases hm:bK g h
     ·have HM:=zH hm;clear hm;go_wp2_with fail
      go_still_tail 5,zK
      go_wp2_with fail;refine (rj g h _).mono ?_;rintro e w2 ⟨rfl,b2⟩;have b02:=b01.drew.trans (b2.mono b01.size);have BX2:=zH (bx1.drew.below b2);clear x0 x1 x2 x3 y0 y1 y2 y3;cases hc:jI g h
      ·have FIN:=zH (NXT.out (by rw [<- HSC.out,HD2.out,yk HM.out hc]));clear hc;go_wp2_with fail;go_roundg (go - 1)
       case measure=>omega
       case rel=>exact ⟨i+1,zO,by go_num,FIN.out,b02⟩
      ·have FIN:=zH (show dF g (l.drop (k+1)) (k+1)=dF g (l.drop (i+1)) (i+1) by
        rw [<- HSC.out,HD2.out,yj HM.out hc])
       clear hc;go_wp2_with fail;go_roundg (gk - 1)
       case measure=>omega
       case rel=>exact ⟨k+1,zO,zO,by go_num,FIN.out,BX2.out,b02⟩
     ·have hl:=H.out.1;have FIN:=zH (Jq HD.out HD2.out zO zO (show bf l 0=some (i,k) by rw [<- HS.out,HD.out,bf,<- HSC.out,HD2.out,ul hm]));clear hm x0 x1 x2 x3 y0 y1 y2 y3;have hi0:(0:Int)<=(i:Int):=zO;have hic:(i:Int)<=(c:Int):=zO;have hik0:(i:Int)+1<=(k:Int):=zO;have hkc:(k:Int)<=(c:Int):=zO;have hkn:(k:Int)+1<=(n:Int):=zO;have hwi:IntKind.i64.wrap ((i:Int)+1)=(i:Int)+1:=by rw [IntKind.wrap_i64];omega
      obtain ⟨AA,hAA⟩:∃ AA,(some ⟨b,off,none⟩:Option Addr)=AA:=⟨_,rfl⟩;rw [hAA] at H ⊢;have hsl1:=UC AA n c i zO;have hsl2:=PS AA n c (i+1) k zO zO;rw [Int.natCast_succ] at hsl2;obtain ⟨A2,hA2⟩:∃ A2,(if c=i+1 then AA else AA.map (·.add ((i+1) * 4)))=A2:=⟨_,rfl⟩;obtain ⟨m2,hm2⟩:∃ m2,k - (i+1)=m2:=⟨_,rfl⟩;rw [hA2,hm2] at hsl2;have R1:=zH ((H.below b01).pre (k:=i) zO);have R2:=zH (show ∀ wx,Below w w wx->Rd wx 4 A2 m2 (af ((l.drop (i+1)).take (k - (i+1)))) from fun wx bx=>by
       have h2:=(H.below bx).mid (lo:=i+1) (hi:=k) (cap:=c) zO zO hnc;rw [hA2] at h2;have h3:=h2.2;rw [hm2] at h3 ⊢;exact h3)
      have hsl3:=UB AA n c (k+1) zO;rw [Int.natCast_succ] at hsl3;obtain ⟨A4,hA4⟩:∃ A4,(if c=k+1 then AA else AA.map (·.add ((k+1) * 4)))=A4:=⟨_,rfl⟩;obtain ⟨m4,hm4⟩:∃ m4,n - (k+1)=m4:=⟨_,rfl⟩;rw [hA4,hm4] at hsl3;have R4:=zH (show ∀ wx,Below w w wx->Rd wx 4 A4 m4 (af (l.drop (k+1))) from fun wx bx=>by
       have h4:=(H.below bx).cut (k:=k+1) (cap:=c) zO hnc;rw [hA4,hm4] at h4;exact h4.2)
      obtain ⟨m1,hm1⟩:∃ m1,(aU g h).length=m1:=⟨_,rfl⟩;have LEN:=zH (show (d9 l).length=i+m2+m1+m4 by rw [FIN.out.2.1,hm2,hm1,hl,hm4]);have GLUE:=zH FIN.out.1;have SB:=zH FIN.out.2.2;have hbd:i+m2+m1+m4<=n:=zO;rw [hm1] at o1 hml ⊢;have O1:=zH o1;clear hm1 hm2 hm4 hA4 hA2 hAA FIN o1 hl;have hz4:(Value.agg #[(0:Int),(0:Int),(0:Int),(0:Int)]).cells.size=4:=rfl;have RC:RdG w1.drew AA i (l.take i):=R1.drew;go_wp2_with fail
      go_region_held3 (fun w'=>True) (first | trivial | skip)
       (first
        |(go_at_call 35;(with_reducible refine (dB _ _ _ _ _ RC zO).mono ?_);rintro e w2 ⟨A3,c3,rfl,o2,b2⟩;have B2:Below w1 w1 w2:=aC b2;have SRC1:=R2.out w2 (b01.trans (B2.mono b01.size)))
        |(refine bv zF (.tmp 38) (.tmp 43) 24 zF Tryz.underlying24 ak hz4 zD zA o2 zA SRC1 aQ zO zD B2.size ?_;intro A5 c5 w3 o3 g3;have B3:Below w1 w1 w3:=ag B2 B2.size o2 zR g3;have P1:=ab O1.out B3))
      go_wp2_with (first
       |(at_builtin;refine ah rfl (.tmp 45) (.tmp 46) 24 rfl Tryz.underlying24 ak rfl zD rfl o3 rfl (Rd.own P1) aQ zO zD B3.size ?_;intro A6 c6 w4 o4 g4;have B4:Below w1 w1 w4:=ag B3 B3.size o3 zR g4;have SRC2:=R4.out w4 (b01.trans (B4.mono b01.size)))
       |(at_builtin;refine ah rfl (.tmp 48) (.tmp 52) 24 rfl Tryz.underlying24 ak rfl zD rfl o4 rfl SRC2 aQ zO zD B4.size ?_;intro A7 c7 w5 o5 g5))
      go_ret2;rw [SB.out];exact ⟨A7,c7,by rw [LEN.out];rfl,by rw [LEN.out,GLUE.out];exact ae o5 b01.size,b01.trans ((ag B4 B4.size o4 zR g5).mono b01.size)⟩
    ·have FIN:=zH (NXT.out (by rw [<- HSC.out,List.drop_eq_nil_of_le vV];rfl));go_wp2_with fail;go_roundg (go - 1)
     case measure=>omega
     case rel=>exact ⟨i+1,zO,by go_num,FIN.out,hb⟩
  ·have HO:=zH (show d9 l=l/\eR l=false by
    have e:bf l 0=none:=by rw [<- HS.out,List.drop_eq_nil_of_le vV];rfl
    simp [d9,eR,e])
   go_wp2_with fail;refine (dB _ _ _ _ _ (H.below hb) hn).mono ?_;rintro e w2 ⟨A2,c2,rfl,o2,b2⟩;go_wp2_with fail;go_ret2;have hl:=H.out.1;rw [HO.out.1,HO.out.2];exact ⟨A2,c2,by rw [hl];rfl,by rw [hl];exact ae o2 hb.size,hb.trans (b2.mono hb.size)⟩
open Go.RowKit
def hJ (r:Po × Bool) (w:World) (e:Ending) (w':World):Prop:=∃ v,e=.returned (.tuple #[v,.bool r.2])/\OwnPoly w' w.heap.size r.1.N r.1.H r.1.t r.1.o v/\Below w w w'
theorem Bl {p:Prop} (h:p:=by
  rw [ha] at h3;simp [tZ,jL,ee,gH] at h3;omega):p:=h
theorem eI {k a b c n:Int} (h:fJ k a b c n=true):1<=n/\n<=4/\0<=a/\a < n/\0<=b/\b < n:=by
 unfold fJ at h;simp only [Bool.and_eq_true,decide_eq_true_eq] at h;obtain ⟨h1,h2,h3⟩:=h;obtain ⟨h4,h5⟩:=inB_iff.1 h1;rcases bd k with ⟨_,_,ha⟩ | ⟨_,_,ha⟩ | ⟨_,ha⟩ | ⟨_,ha⟩
 ·exact Bl
 ·exact Bl
 ·exact Bl
 ·omega
theorem Bm {k a b c n:Int} (h:fJ k a b c n=true) (hk:aA k=2):b ≠ a:=by
 unfold fJ at h;simp only [Bool.and_eq_true,decide_eq_true_eq] at h;obtain ⟨h1,h2,h3⟩:=h;rw [hk] at h3;simp [tZ,jL,ee,gH] at h3;omega
theorem cL {p:Po} {g:Gt} (h:lN p g=true):fJ g.k g.a g.b g.c p.N=true/\(p.o.length:Int)=p.N:=by
 unfold lN at h;simpa using h
theorem Jr {p:Po} {g:Gt} (h:lN p g=false):fJ g.k g.a g.b g.c p.N=false\/(fJ g.k g.a g.b g.c p.N=true/\(p.o.length:Int) ≠ p.N):=by
 unfold lN at h;cases h1:fJ g.k g.a g.b g.c p.N
 ·exact .inl rfl
 ·right
  rw [h1] at h;simpa using h
theorem ia {a w:World} {o:Obj} (h:Below a.heap.size a w):Below a.heap.size a (w.alloc o):=h.alloc h.size _
theorem bM {w:World} {base:Nat} {e:TypeId} {sz n:Nat} {v:Value} {xs:List Value} (h:w.ownsRow base e sz v n xs) {p:Addr} (hp:some p.block ≠ v.ownBlock) (u:Value):(w.setCell p u).ownsRow base e sz v n xs:=by
 have hg:w.grownBy (w.setCell p u) (some p.block):=⟨rfl,rfl,rfl,by simp [World.setCell],fun k hk hne=>Below.heap_setCell w _ _ k (fun e=>hne (by rw [e]))⟩;exact h.kept hg (.inr (fun e=>hp e.symm))
theorem Wp {w w':World} {g t B:Nat} {cs:Array Value} (h:Bx w g t cs) (hb:Below B w w') (hg:g < B):Bx w' g t cs:=(hb.block g hg).trans h
theorem sr (a b:Int):bits .xor .i64 a b=bits .xor .i64 b a:=by
 show IntKind.i64.wrap ((BitVec.ofInt 64 a ^^^ BitVec.ofInt 64 b).toNat:Int)=IntKind.i64.wrap ((BitVec.ofInt 64 b ^^^ BitVec.ofInt 64 a).toNat:Int);rw [BitVec.xor_comm]
theorem eY {w:World} {base:Nat} {e:TypeId} {n c:Nat} {A:Option Addr} {l:List (Int × Int)} (ho:w.ownsRow base e 2 (.slice A n c) n (aj l)) {k:Nat} (hk:k < n) :
  ∃ (g:Nat),A=some ⟨g,0,none⟩/\base<=g/\g < w.heap.size/\w.cell? ⟨g,k * 2,none⟩=some (.int .i64 (l.getD k (0,0)).1)/\w.cell? ⟨g,k * 2+1,none⟩=some (.int .i64 (l.getD k (0,0)).2)/\w.frozen? ⟨g,k * 2,none⟩=false/\w.frozen? ⟨g,k * 2+1,none⟩=false:=by
 have hL:l.length=n:=by have:=ho.1;rw [fr] at this;omega
 obtain ⟨g,rfl⟩:=yE ho zO;have hd:l.drop k=(l.getD k (0,0)) :: l.drop (k+1):=by
  rw [ax zO,List.getD_eq_getElem?_getD,List.getElem?_eq_getElem zO,Option.getD_some]
 have f2:=CM _ _ _ _ hd;have hg:=ho.lt g rfl;exact ⟨g,rfl,hg.1,hg.2,(ho.cellAt (k * 2) zO).trans f2.1,(ho.cellAt (k * 2+1) zO).trans f2.2,ho.frozenAt _,ho.frozenAt _⟩
theorem kc {w:World} {n:Nat} {A:Option Addr} {l:List (Int × Int)} (h:RdP w A n l) {k:Nat} (hk:k < n) :
  ∃ (b off:Nat),A=some ⟨b,off,none⟩/\b < w.heap.size/\w.cell? ⟨b,off+k * 2,none⟩=some (.int .i64 (l.getD k (0,0)).1)/\w.cell? ⟨b,off+k * 2+1,none⟩=some (.int .i64 (l.getD k (0,0)).2):=by
 obtain ⟨b,off,x,y,e,hb,hd,c0,c1⟩:=h.at_ hk;have hx:l.getD k (0,0)=(x,y):=by
  have:=congrArg (fun r=>r[0]?) hd;rw [List.getD_eq_getElem?_getD];simp at this;rw [this];rfl
 rw [hx];exact ⟨b,off,e,hb,c0,c1⟩
theorem i6 (l:List (Int × Int)) (k:Nat) (x y:Int) (hk:k < l.length):((aj l).set (k * 2) (.int .i64 x)).set (k * 2+1) (.int .i64 y)=aj (l.set k (x,y)):=by
 obtain ⟨a,z,r,rfl,rfl⟩:∃ a z r,l=a++z :: r/\a.length=k:=⟨l.take k,l[k],l.drop (k+1),by rw [<- ax hk,List.take_append_drop],by rw [List.length_take];omega⟩;have hlen:=fr a;rw [dM,List.set_append,if_neg zO,List.set_append,if_neg zO,hlen];simp [aj,show a.length * 2+1 - a.length * 2=1 by omega]
theorem Dz (l:List (Int × Int)) (k:Nat) (y:Int) (hk:k < l.length):(aj l).set (k * 2+1) (.int .i64 y)=aj (l.set k ((l.getD k (0,0)).1,y)):=by
 have h:=i6 l k (l.getD k (0,0)).1 y hk;rw [<- h];congr 1;have f2:=(CM l k (l.getD k (0,0)) (l.drop (k+1)) (by rw [ax hk,List.getD_eq_getElem?_getD,List.getElem?_eq_getElem hk,Option.getD_some])).1
 apply List.ext_getElem?
 intro i;rw [List.getElem?_set];split
 ·subst i;rw [f2];split
  ·rfl
  ·rename_i h0;rw [List.getElem?_eq_none zO] at f2;cases f2
 ·rfl
open Go.RowKit
def PAt (W:World) (gp base:Nat) (N H:Int) (t o:List (Int × Int)):Prop :=
 ∃ (A:Option Addr) (c:Nat) (B:Option Addr) (d:Nat),Bx W gp 88 #[N,H,.slice A t.length c,.slice B o.length d]/\W.ownsRow base 128 2 (.slice A t.length c) t.length (aj t)/\W.ownsRow base 93 2 (.slice B o.length d) o.length (aj o)
theorem PAt.below {W W':World} {gp base:Nat} {N H:Int} {t o:List (Int × Int)} (h:PAt W gp base N H t o) (hb:Below W.heap.size W W'):PAt W' gp base N H t o:=by
 obtain ⟨A,c,B,d,h1,h2,h3⟩:=h;exact ⟨A,c,B,d,h1.below hb,ab h2 hb,ab h3 hb⟩
theorem yP (n:Int):IntKind.i64.wrap n=wrap64 n:=by rw [IntKind.wrap_i64];unfold wrap64;omega
theorem ss (n:Int):IntKind.i64.wrap n % 8=n % 8:=by rw [IntKind.wrap_i64];omega
theorem UY (c:Array Value) (W:World) (e:TypeId) (x y:Value):Rd ((W.alloc (.cells c e)).alloc (.cells #[x,y] e)) 2 (some ⟨W.heap.size+1,0,none⟩) 1 [x,y]:=by
 have:=Rd.lit (W.alloc (.cells c e)) e #[x,y] 1 2 rfl;rw [World.size_alloc] at this;exact this
def Js (t:List (Int × Int)) (p:Int × Int) (u:Int):List (Int × Int):=if (p.2 == 0)=true then cD t p.1 u else cD t p.1 (-u)
def Jt (H:Int) (p:Int × Int) (u:Int):Int:=if (p.2 == 0)=true then H else (H+u) % 8
theorem Ju {p:Prop} (h:p:=by
  obtain ⟨k,q,A0,c0,hk,rfl,rfl,hqk,hq,ho,hbw⟩:=hrel;have HQ:=zH hq;have HO:=zH ho;have HB:=zH hbw;have hbs:=hbw.size;clear hq ho hbw;by_cases hlt:k < LL
  ·obtain ⟨bb,off,u',v,hA,hBb,hd,d0,d1⟩:=(SR.below HB.out).at_ hlt;injection hA with hA;injection hA with hA1 hA2 _;subst hA1 hA2
   rw [Nat.zero_add] at d0 d1;have HD:=zH hd;have HN:Hid (nz (b.take (k+1))=nz (b.take k)++(if (v == 0)=true then [] else [(u',v)])):=zH (by rw [eZ HD.out,vI]);have hkI:(k:Int) < (LL:Int):=zO;have hk0:(0:Int)<=(k:Int):=zO;clear hd;by_cases hv:v=0
   ·subst hv;go_wp2_with fail;go_roundg (gk - 1)
    case measure=>omega
    case rel=>exact ⟨k+1,q,A0,c0,zO,by go_num,rfl,zO,by rw [HN.out];simpa using HQ.out,by rw [HN.out];simpa using World.ownsRow.alloc HO.out _,HB.alloc hbs _⟩
   ·have hv1:(v == 0)=false:=by simpa using hv
    have HV:=zH hv1;have hv2:(v != 0)=true:=by simp [bne,hv1]
    have DA:=zH ((HO.alloc (.cells #[u',v] 128)).alloc (.cells #[u',v] 128))
    go_wp2_with (at_builtin;refine ah rfl (.tmp 76) (.tmp 78) 85 rfl Tryz.underlying85 bN rfl zD rfl DA.out rfl (UY _ wr 128 _ _) zV zO zD zS ?_;intro A5 c5 w5 o5 g5)
    go_roundg (gk - 1)
    case measure=>omega
    case rel =>
     refine ⟨k+1,q+1,A5,c5,zO,by go_num,rfl,zO,by rw [HN.out,HV.out];simp [HQ.out],?_,ag ((HB.alloc hbs _).alloc zJ _) zJ DA.out zR g5⟩;rw [HN.out,HV.out];rw [show nz (b.take k)++(if false=true then [] else [(u',v)])=nz (b.take k)++[(u',v)] from rfl,dM];exact o5
  ·have hkL:k=LL:=zO;have XE:=zH (XT.below HB);obtain ⟨p0,p1,p2,p3,f0,f1,f2,f3⟩:=XE.four;go_wp2_with fail;have e:nz (b.take k)=R:=by rw [List.take_of_length_le (by have:=HBL.out;omega),HRB.out]
   have HOO:=HO.out;have HQQ:=HQ.out;rw [e] at HOO HQQ;subst HQQ;have hbz:base<=wy.heap.size:=by have:=SB.size;omega
   have e1:some gp ≠ (Value.slice A0 R.length c0).ownBlock:=by intro e;have:=(HOO.lt gp e.symm).1;omega
   go_end0
   refine ⟨rfl,⟨A0,c0,B,d,by rw [HNO.out];exact XE.s2 _,bM (ae HOO hbz) e1 _,by rw [HNO.out];exact bM (ab OT.out HB.out) (am (ab OT.out HB.out) XE.out zD) _⟩,(SB.trans (HB.mono hbz)).setCell (show base<=gp from hbg) _⟩):p:=h
theorem Fw (gp base:Nat) (N H:Int) (t o:List (Int × Int)) (m u:Int) (w:World) (hp:PAt w gp base N H t o) (hb:base<=w.heap.size) (hbg:base<=gp) (hn:t.length<=274877906944)  :
  Calls Tryz.prog 125 #[.pointer (some ⟨gp,0,none⟩),.agg #[m,(0:Int)],u] w fun e w'=>e=.returned (.tuple #[])/\PAt w' gp base N H (cD t m u) o/\Below base w w':=by
 obtain ⟨A,c,B,d,hx,ht,ho⟩:=hp;obtain ⟨n,hnl⟩:∃ n,t.length=n:=⟨_,rfl⟩;obtain ⟨no,hno⟩:∃ n,o.length=n:=⟨_,rfl⟩;rw [hnl] at hx ht hn;rw [hno] at hx ho;have HNO:=zH hno;have HNL:=zH hnl;have HX:=zH (hx.alloc (.cells #[m,(0:Int)] 93));have HT:=zH (ht.alloc (.cells #[m,(0:Int)] 93));have HO:=zH (ho.alloc (.cells #[m,(0:Int)] 93));have XL:=zH (Bx.new w 93 #[m,(0:Int)]);have hgp:=hx.lt;have BW:=zH (show Below base w (w.alloc (.cells #[m,(0:Int)] 93)) from (zW).alloc hb _);have hb1:base<=(w.alloc (.cells #[m,(0:Int)] 93)).heap.size:=zJ;obtain ⟨R,hR⟩:∃ R,cD t m u=R:=⟨_,rfl⟩;have HR:=zH hR;rw [hR];obtain ⟨ka,hka⟩:∃ k,ur t m=k:=⟨_,rfl⟩;have HKA:=zH hka;have HKL:=zH (show ka < (cQ t m).length from by rw [<- hka];exact r8 t m);have hWL:=(pd t m).2;have hkaL0:=HKL.out;obtain ⟨LL,hLL⟩:∃ k,(cQ t m).length=k:=⟨_,rfl⟩;rw [hLL,hnl] at hWL;rw [hLL] at hkaL0
 have hka0:(0:Int)<=(ka:Int):=zO;have hkaI:(ka:Int) < (LL:Int):=zO;have HLL:=zH hLL;clear hx ht ho hnl hno hR hka hLL;go_enter Tryz.func125,Tryz.ntmps125;go_wp2_with fail;refine (yM gp base N H A n c t _ m _ HX HT hb1 zO).mono ?_;rintro e w1 ⟨A1,c1,rfl,x1,t1,g1⟩;rw [HKA.out];rw [HLL.out] at x1 t1;have O1:=zH (HO.kept g1 (.inr (fun e=>am HO.out HX.out zD e.symm)));have XL1:=zH (XL.grown g1 (by intro e;injection e;omega));have B1:=zH (show Below base w w1 from BW.grown g1 hb1 (fun k hk=>by injection hk;omega));have hs1:w.heap.size < w1.heap.size:=XL1.lt;have hg1:gp < w1.heap.size:=x1.lt;have hngl:w.heap.size ≠ gp:=zO;obtain ⟨p0,p1,p2,p3,f0,f1,f2,f3⟩:=x1.four;obtain ⟨l0,l1,_⟩:=XL1.two;have X1:=zH x1;have T1:=zH t1;clear x1 t1;go_wp2_with fail;have x2:=X1.out;have t2:=T1.out;have O2:=O1;have B2:=B1;clear X1 T1 O1 B1 XL1 p0 p1 p2 p3 f0 f1 f2 f3 l0 l1
 generalize w1=wz at x2 t2 O2 B2 ⊢;have X2:=zH x2;have hgz:gp < wz.heap.size:=x2.lt;obtain ⟨p0,p1,p2,p3,f0,f1,f2,f3⟩:=x2.four;have HP:=mx ka u _ t2 HKL.out B2.out zR;obtain ⟨gx,x,y,rfl,e0,e1,z1,hgx,hL,SO,SB,SG⟩:=HP;have hngx:gx ≠ gp:=by have:=am t2 x2 zD;intro e;exact this (by rw [e];rfl)
 have hngx':gp ≠ gx:=fun e=>hngx e.symm
 have OT:=zH (O2.kept SG (aN O2 t2 zD));have XT:=zH (X2.far (p:=⟨gx,ka * 2+1,none⟩) hngx' (.int .i64 ((y+u) % 8)));clear x2 t2 O2 B2 SG hngl
 go_still_tail 18,zK
 still_call ((m6 _ _).mono fun _ _ h=>⟨h.1,h.2.symm⟩)
 repeat still_step
 refine wpStill_nil ?_
 change wpList Tryz.prog _ _ _ _ wz.drew
 rw [ss];rw [yP];skip;obtain ⟨b,hb'⟩:∃ b,iY (cQ t m) ka u=b:=⟨_,rfl⟩;rw [hb'] at SO;have HBL:Hid (b.length=LL):=zH (by rw [<- hb',lM,HLL.out]);have HRB:Hid (nz b=R):=zH (by rw [<- hb',<- HR.out];unfold cD;rw [HKA.out]);have SR:=zH (RdP.own SO);clear hb';go_wp2_with fail;clear e0 e1 z1 p0 p1 p2 p3 f0 f1 f2 f3 X2;obtain ⟨wy,hwy⟩:∃ wy,wy=wz.setCell ⟨gx,ka * 2+1,none⟩ (.int .i64 ((y+u) % 8)):=⟨_,rfl⟩;rw [<- hwy] at SR SB SO OT XT ⊢;have HSY:Hid (wy.heap.size=wz.heap.size):=zH (by rw [hwy];simp [World.setCell]);clear hwy;have hgy:gp < wy.heap.size:=XT.lt;go_loopg [7,69] LL (fun r v i wr=>∃ (k q:Nat) (A0:Option Addr) (c0:Nat),k+r=LL/\i=.int .i64 k/\v=.slice A0 q c0/\q<=k/\(nz (b.take k)).length=q/\wr.ownsRow wy.heap.size 128 2 (.slice A0 q c0) q (aj (nz (b.take k)))/\Below wy.heap.size wy wr)
 case atStart=>exact ⟨0,0,_,_,zO,rfl,rfl,zR,by simp [nz],by rw [<- HSY.out];simpa [nz,aj] using aq (World.ownsRow_lit wy #[] 0 (size:=2) (e:=128) zR zM rfl),((zW).alloc zR _).drew⟩
 case round =>
  exact Ju
theorem Fx (gp base:Nat) (N H:Int) (t o:List (Int × Int)) (m f u:Int) (w:World) (hp:PAt w gp base N H t o) (hb:base<=w.heap.size) (hbg:base<=gp) (hn:t.length<=274877906944) (hf:(f == 0)=false) :
  Calls Tryz.prog 125 #[.pointer (some ⟨gp,0,none⟩),.agg #[m,f],u] w fun e w'=>e=.returned (.tuple #[])/\PAt w' gp base N ((H+u) % 8) (cD t m (-u)) o/\Below base w w':=by
 obtain ⟨A,c,B,d,hx,ht,ho⟩:=hp;obtain ⟨n,hnl⟩:∃ n,t.length=n:=⟨_,rfl⟩;obtain ⟨no,hno⟩:∃ n,o.length=n:=⟨_,rfl⟩;rw [hnl] at hx ht hn;rw [hno] at hx ho;have HNO:=zH hno;have HNL:=zH hnl;have HX:=zH (hx.alloc (.cells #[m,f] 93));have HT:=zH (ht.alloc (.cells #[m,f] 93));have HO:=zH (ho.alloc (.cells #[m,f] 93));have XL:=zH (Bx.new w 93 #[m,f]);have hgp:=hx.lt;have BW:=zH (show Below base w (w.alloc (.cells #[m,f] 93)) from (zW).alloc hb _);have hb1:base<=(w.alloc (.cells #[m,f] 93)).heap.size:=zJ;obtain ⟨R,hR⟩:∃ R,cD t m (-u)=R:=⟨_,rfl⟩;have HR:=zH hR;rw [hR];obtain ⟨ka,hka⟩:∃ k,ur t m=k:=⟨_,rfl⟩;have HKA:=zH hka;have HKL:=zH (show ka < (cQ t m).length from by rw [<- hka];exact r8 t m);have hWL:=(pd t m).2;have hkaL0:=HKL.out;obtain ⟨LL,hLL⟩:∃ k,(cQ t m).length=k:=⟨_,rfl⟩;rw [hLL,hnl] at hWL;rw [hLL] at hkaL0;have hka0:(0:Int)<=(ka:Int):=zO
 have hkaI:(ka:Int) < (LL:Int):=zO;have HLL:=zH hLL;clear hx ht ho hnl hno hR hka hLL;go_enter Tryz.func125,Tryz.ntmps125;go_wp2_with fail;refine (yM gp base N H A n c t _ m _ HX HT hb1 zO).mono ?_;rintro e w1 ⟨A1,c1,rfl,x1,t1,g1⟩;rw [HKA.out];rw [HLL.out] at x1 t1;have O1:=zH (HO.kept g1 (.inr (fun e=>am HO.out HX.out zD e.symm)));have XL1:=zH (XL.grown g1 (by intro e;injection e;omega));have B1:=zH (show Below base w w1 from BW.grown g1 hb1 (fun k hk=>by injection hk;omega));have hs1:w.heap.size < w1.heap.size:=XL1.lt;have hg1:gp < w1.heap.size:=x1.lt;have hngl:w.heap.size ≠ gp:=zO;obtain ⟨p0,p1,p2,p3,f0,f1,f2,f3⟩:=x1.four;obtain ⟨l0,l1,_⟩:=XL1.two;have X1:=zH x1;have T1:=zH t1;clear x1 t1;go_wp2_with fail;refine (m6 _ _).mono ?_;rintro e wq ⟨rfl,rfl⟩;rw [fd];go_wp2_with fail;have x2:=X1.s1 (.int .i64 ((H+u) % 8))
 have t2:=bM T1.out (p:=⟨gp,1,none⟩) (am T1.out X1.out zD) (.int .i64 ((H+u) % 8));have O2:=zH (bM O1 (p:=⟨gp,1,none⟩) (am O1 X1 zD) (.int .i64 ((H+u) % 8)));have B2:=zH (B1.setCell (p:=⟨gp,1,none⟩) (show base<=gp from hbg) (.int .i64 ((H+u) % 8)));clear X1 T1 O1 B1 XL1 p0 p1 p2 p3 f0 f1 f2 f3 l0 l1;generalize w1.setCell ⟨gp,1,none⟩ (.int .i64 ((H+u) % 8))=wz at x2 t2 O2 B2 ⊢;have X2:=zH x2;have hgz:gp < wz.heap.size:=x2.lt;obtain ⟨p0,p1,p2,p3,f0,f1,f2,f3⟩:=x2.four;have HP:=mx ka (-u) _ t2 HKL.out B2.out zR;obtain ⟨gx,x,y,rfl,e0,e1,z1,hgx,hL,SO,SB,SG⟩:=HP;have hngx:gx ≠ gp:=by have:=am t2 x2 zD;intro e;exact this (by rw [e];rfl)
 have hngx':gp ≠ gx:=fun e=>hngx e.symm
 have OT:=zH (O2.kept SG (aN O2 t2 zD));have XT:=zH (X2.far (p:=⟨gx,ka * 2+1,none⟩) hngx' (.int .i64 ((y+(-u)) % 8)));clear x2 t2 O2 B2 SG hngl
 go_still_tail 18,zK
 still_call ((m6 _ _).mono fun _ _ h=>⟨h.1,h.2.symm⟩)
 repeat still_step
 refine wpStill_nil ?_
 change wpList Tryz.prog _ _ _ _ wz.drew
 rw [ss];rw [yP];simp only [<- Int.sub_eq_add_neg] at SO SB OT XT;obtain ⟨b,hb'⟩:∃ b,iY (cQ t m) ka (-u)=b:=⟨_,rfl⟩;rw [hb'] at SO;have HBL:Hid (b.length=LL):=zH (by rw [<- hb',lM,HLL.out]);have HRB:Hid (nz b=R):=zH (by rw [<- hb',<- HR.out];unfold cD;rw [HKA.out]);have SR:=zH (RdP.own SO);clear hb';go_wp2_with fail;clear e0 e1 z1 p0 p1 p2 p3 f0 f1 f2 f3 X2;obtain ⟨wy,hwy⟩:∃ wy,wy=wz.setCell ⟨gx,ka * 2+1,none⟩ (.int .i64 ((y - u) % 8)):=⟨_,rfl⟩;rw [<- hwy] at SR SB SO OT XT ⊢;have HSY:Hid (wy.heap.size=wz.heap.size):=zH (by rw [hwy];simp [World.setCell]);clear hwy;have hgy:gp < wy.heap.size:=XT.lt;go_loopg [7,69] LL (fun r v i wr=>∃ (k q:Nat) (A0:Option Addr) (c0:Nat),k+r=LL/\i=.int .i64 k/\v=.slice A0 q c0/\q<=k/\(nz (b.take k)).length=q/\wr.ownsRow wy.heap.size 128 2 (.slice A0 q c0) q (aj (nz (b.take k)))/\Below wy.heap.size wy wr)
 case atStart=>exact ⟨0,0,_,_,zO,rfl,rfl,zR,by simp [nz],by rw [<- HSY.out];simpa [nz,aj] using aq (World.ownsRow_lit wy #[] 0 (size:=2) (e:=128) zR zM rfl),((zW).alloc zR _).drew⟩
 case round =>
  exact Ju
theorem Jv (gp base:Nat) (N H:Int) (t o:List (Int × Int)) (p:Int × Int) (u:Int) (w:World) (hp:PAt w gp base N H t o) (hb:base<=w.heap.size) (hbg:base<=gp) (hn:t.length<=274877906944) :
  Calls Tryz.prog 125 #[.pointer (some ⟨gp,0,none⟩),.agg #[p.1,p.2],u] w fun e w'=>e=.returned (.tuple #[])/\PAt w' gp base N (Jt H p u) (Js t p u) o/\Below base w w':=by
 obtain ⟨m,f⟩:=p;unfold Jt Js;cases hf:(f == 0)
 ·rw [if_neg zI,if_neg zI];exact Fx gp base N H t o m f u w hp hb hbg hn hf
 ·obtain rfl:f=0:=by simpa using hf
  rw [if_pos zF,if_pos zF];exact Fw gp base N H t o m u w hp hb hbg hn
open Go.RowKit
theorem vW (k a b c k' a' b' c':Int) (w:World):(Op.equalIn 10000 39 (.agg #[k,a,b,c]) (.agg #[k',a',b',c'])).run Tryz.prog w=.ok (k == k' && (a == a' && (b == b' && c == c'))) w:=by
 have u3:=Tryz.underlying3;have a3:=Tryz.isAgg3;have z3:=Tryz.sizeOf3;have hS:Tryz.prog.underlying 39=some (.struct (Tryz.prog.fieldsOf 39)):=zK;rw [show (10000:Nat)=9999+1 from rfl,run_equalIn_agg w 9999 39 _ _ hS zK];simp only [Program.fieldsOf,Tryz.underlying39]
 go_simp
 by_cases h1:k=k'<;>by_cases h2:a=a'<;>by_cases h3:b=b'<;>by_cases h4:c=c'<;>simp [h1,h2,h3,h4]
theorem gM (A A':Option Addr) (n c c':Nat) (gs:List Gt) (w:World) (h:RdG w A n gs) (h':RdG w A' n gs) (hn:n<=1099511627776) :
  Calls Tryz.prog 19 #[.slice A n c,.slice A' n c'] w fun e w'=>e=.returned (.bool true)/\Below w w w':=by
 have H:=zH h;have H':=zH h';clear h h';go_enter Tryz.func19,Tryz.ntmps19;go_wp2;go_loopg [5] n (fun m i wr=>∃ k:Nat,k+m=n/\i=.int .i64 k/\Below w w wr)
 case atStart=>exact ⟨0,zO,rfl,zW⟩
 case round =>
  obtain ⟨k,hk,rfl,hb⟩:=hrel;by_cases hlt:k < n
  ·obtain ⟨b,off,g,rfl,hB,hd,c0,c1,c2,c3⟩:=(H.below hb).at_ hlt;obtain ⟨b',off',g',rfl,hB',hd',c0',c1',c2',c3'⟩:=(H'.out.below hb).at_ hlt;obtain rfl:g=g':=by rw [hd] at hd';injection hd'
   clear hd hd';have hi0:(0:Int)<=(k:Int):=zO;have hi1:(k:Int) < (n:Int):=zO;have hE:∀ w,(Op.equalIn 10000 39 (.agg #[g.k,g.a,g.b,g.c]) (.agg #[g.k,g.a,g.b,g.c])).run Tryz.prog w=.ok true w:=fun w=>by rw [vW];simp
   have hM:Tryz.prog.eqGuardType Tryz.prog.depth 39=false:=zK;go_wp2_with fail;go_quiet (fail)
   go_wp2;go_roundg (gk - 1)
   case measure=>omega
   case rel=>exact ⟨k+1,zO,by go_num,⟨hb.os,hb.tape,hb.output,hb.size,hb.block⟩⟩
  ·go_wp2;go_ret;exact ⟨rfl,hb⟩
end Go.Proofs.YtmenmibfkojnoaaGreat
