/- Contracts of IdentityTableau, for one to. -/
import Derived.Test.YtmenmibfkojnoaaGreatY28
set_option maxHeartbeats 16000000
set_option maxRecDepth 100000
namespace Go.Proofs.YtmenmibfkojnoaaGreat
open Go.RowKit
set_option linter.unusedVariables false
theorem DK (n:Nat):(ch n).length=2 * n:=by unfold ch;simp;omega
theorem Qb {n k:Nat} (h:k < n):(ch n)[k]? = some (xQ k):=by
 unfold ch;rw [List.getElem?_append_left (by simpa using h)];simp [h]
theorem Qc {n k:Nat} (h:k < n):(ch n)[n+k]? = some (zQ k):=by
 unfold ch;rw [List.getElem?_append_right zI];simp [h]
theorem Bq {n k X:Nat} (h:k < n) (hX:2 ^ k=X):(ch n).take (k+1)=(ch n).take k++[⟨X,0,0⟩]:=by rw [db (Qb h)];unfold xQ;rw [hX]
theorem Br {n k X:Nat} (h:k < n) (hX:2 ^ k=X):(ch n).take (n+k+1)=(ch n).take (n+k)++[⟨0,X,0⟩]:=by rw [db (Qc h)];unfold zQ;rw [hX]
theorem wh (n:Nat) (w:World) (hn:1<=n/\n<=4):Calls Tryz.prog 114 #[n] w (qL n (2 * n) (ch n) w):=by
 have HI:=zH (show ee (n:Int) 1 4=true from bG zO zO);have R0:=zH (show Bx ((w.alloc ZO.zT).alloc (.cells #[n,.slice none 0 0] 73)) w 73 #[(0:Int),.slice none 0 0] from (Bx.new _ _ _).alloc _);have M0:=zH (show MB w n (w.heap.size+1) 0 none 0 ((ch n).take 0) ((w.alloc ZO.zT).alloc (.cells #[n,.slice none 0 0] 73)) from ⟨Bx.new' zI,World.ownsRow_nil _ _ _ _,((zW).alloc zR _).alloc zI _,zO,zI⟩);have hz2:(Value.agg #[(0:Int),(0:Int),(0:Int),(0:Int)]).cells.size=4:=rfl;go_enter Tryz.func114,Tryz.ntmps114;go_wp2_with fail;refine (eK _ _ _ _).mono ?_;rintro e w1 ⟨rfl,rfl⟩;rw [HI.out];go_wp2_with fail;go_loopg [4] n (fun q i wr=>∃ (k:Nat) (A0:Option Addr) (c0:Nat),k+q=n/\i=.int .i64 k/\Bx wr w 73 #[(0:Int),.slice none 0 0]/\MB w n (w.heap.size+1) k A0 c0 ((ch n).take k) wr)
 case atStart=>exact ⟨0,none,0,zO,rfl,R0.out,M0.out⟩
 case round =>
  clear R0 M0;obtain ⟨k,A0,c0,hk,rfl,hR,hM⟩:=hrel;have m0:=hM.1.cell 0;have m1:=hM.1.cell 1;have hO:=hM.2.2.2.2;have RR:=zH hR;have MM:=zH hM;clear hR hM;by_cases hlt:k < n
  ·obtain ⟨S1,S2,S3⟩:=vl ⟨k,zO⟩;simp only at S1 S2 S3;obtain ⟨X,hX⟩:∃ X:Nat,2 ^ k=X:=⟨_,rfl⟩;rw [hX] at S1 S2 S3;have HT:=zH (Bq hlt hX);clear hX;have M2:=zH (MM.alloc (.cells #[n,X,(0:Int),(0:Int)] 151));have R2:=zH (RR.alloc (.cells #[n,X,(0:Int),(0:Int)] 151));have OV:Hid ((wr.alloc (.cells #[n,X,(0:Int),(0:Int)] 151)).drew.ownsRow (w.heap.size+1+1) 151 4 (.slice A0 k c0) k (af (dP n ((ch n).take k)))):=zH M2.out.2.1;go_wp2_with fail
   go_region_law (first
    |(refine bv zF (.tmp 18) (.tmp 23) 71 zF Tryz.underlying71 fc hz2 zD zA OV.out zA (Rd.drew (Rd.lit wr 151 #[n,X,(0:Int),(0:Int)] 1 4 rfl)) zV zO zD zS ?_;intro A5 c5 w5 o5 g5;have Y2:=M2.grown (gL g5);have ⟨q0,q1,e0,e1⟩:=Y2.two))
   all_goals go_wp2_with fail
   all_goals go_roundg (gk - 1)
   all_goals first
    |omega
    |exact ⟨k+1,A5,c5,zO,by go_num,M2.keeps (gL g5) R2.out zO,by rw [HT.out];exact M2.push (gL g5) o5⟩
  ·obtain rfl:k=n:=zO;obtain ⟨wo,rfl⟩:∃ wo,wo=wr:=⟨_,rfl⟩;go_wp2_with fail;go_loopg [5] k (fun q i wr=>∃ (j:Nat) (A0:Option Addr) (c0:Nat),j+q=k/\i=.int .i64 j/\Bx wr w 73 #[(0:Int),.slice none 0 0]/\MB w k (w.heap.size+1) (k+j) A0 c0 ((ch k).take (k+j)) wr)
   case atStart=>exact ⟨0,A0,c0,zO,rfl,RR.out,MM.out⟩
   case round =>
    clear RR MM m0 m1 hO;obtain ⟨j,A1,c1,hj,rfl,hR,hM⟩:=hrel;have m0:=hM.1.cell 0;have m1:=hM.1.cell 1;have hO:=hM.2.2.2.2;have RR:=zH hR;have MM:=zH hM;clear hR hM;by_cases hlt:j < k
    ·obtain ⟨S1,S2,S3⟩:=vl ⟨j,zO⟩;simp only at S1 S2 S3;obtain ⟨X,hX⟩:∃ X:Nat,2 ^ j=X:=⟨_,rfl⟩;rw [hX] at S1 S2 S3;have HT:=zH (Br hlt hX);clear hX;have M2:=zH (MM.alloc (.cells #[k,(0:Int),X,(0:Int)] 151));have R2:=zH (RR.alloc (.cells #[k,(0:Int),X,(0:Int)] 151));have OV:Hid ((wr.alloc (.cells #[k,(0:Int),X,(0:Int)] 151)).drew.ownsRow (w.heap.size+1+1) 151 4 (.slice A1 (k+j) c1) (k+j) (af (dP k ((ch k).take (k+j))))):=zH M2.out.2.1;go_wp2_with fail
     go_region_law (first
      |(refine bv zF (.tmp 32) (.tmp 37) 71 zF Tryz.underlying71 fc hz2 zD zA OV.out zA (Rd.drew (Rd.lit wr 151 #[k,(0:Int),X,(0:Int)] 1 4 rfl)) zV zO zD zS ?_;intro A5 c5 w5 o5 g5;have Y2:=M2.grown (gL g5);have ⟨q0,q1,e0,e1⟩:=Y2.two))
     all_goals go_wp2_with fail
     all_goals go_roundg (gk - 1)
     all_goals first
      |omega
      |exact ⟨j+1,A5,c5,zO,by go_num,M2.keeps (gL g5) R2.out zO,by show MB w k (w.heap.size+1) (k+j+1) A5 c5 ((ch k).take (k+j+1)) _;rw [HT.out];exact M2.push (gL g5) o5⟩
    ·obtain rfl:j=k:=zO;obtain ⟨r0,r1,r2,r3⟩:=RR.two;have hrs:(ch j).take (j+j)=ch j:=List.take_of_length_le (by rw [DK];omega);have h2:j+j=2 * j:=zO;have HM:=MM.out;rw [hrs] at HM;go_wp2_with fail;have RB:=RR.out;rw [h2] at HM
     with_reducible refine eD RB ?_ ?_ ⟨A1,c1,rfl,?_,?_⟩
     ·intro wS z0 z1;simp [results,Tryz.results114,go_sem,z0,z1]
     ·rfl
     ·exact ae (yz HM.2.1 zO _ _) zO
     ·exact ay HM.2.2.1 zO _ _
theorem NP {n k:Nat} (h:k < 2 * n):(ch n)[k]? = some (if decide (n<=k)=true then zQ (if n<=k then k - n else k) else xQ (if n<=k then k - n else k)):=by
 by_cases hk:n<=k
 ·simp only [hk,decide_true,if_true];have:=Qc (n:=n) (k:=k - n) zO;rwa [show n+(k - n)=k by omega] at this
 ·simp only [hk,decide_false,if_false];exact Qb zO
theorem wi (n:Nat) (w:World) (hn:1<=n/\n<=4):Calls Tryz.prog 110 #[n] w (qL n (2 * n) (ch n) w):=by
 have HI:=zH (show ee (n:Int) 1 4=true from bG zO zO);have R0:=zH (show Bx ((w.alloc ZO.zT).alloc (.cells #[n,.slice none 0 0] 73)) w 73 #[(0:Int),.slice none 0 0] from (Bx.new _ _ _).alloc _);have M0:=zH (show MB w n (w.heap.size+1) 0 none 0 ((ch n).take 0) ((w.alloc ZO.zT).alloc (.cells #[n,.slice none 0 0] 73)) from ⟨Bx.new' zI,World.ownsRow_nil _ _ _ _,((zW).alloc zR _).alloc zI _,zO,zI⟩);have hz2:(Value.agg #[(0:Int),(0:Int),(0:Int),(0:Int)]).cells.size=4:=rfl;have n2:IntKind.i64.wrap (2 * (n:Int))=2 * (n:Int):=E8 zO zO;go_enter Tryz.func110,Tryz.ntmps110;go_wp2_with fail;refine (el _ _ _ _).mono ?_;rintro e w1 ⟨rfl,rfl⟩;rw [HI.out];go_wp2_with fail;go_loopg [4] (2 * n) (fun q i wr=>∃ (k:Nat) (A0:Option Addr) (c0:Nat),k+q=2 * n/\i=.int .i64 k/\Bx wr w 73 #[(0:Int),.slice none 0 0]/\MB w n (w.heap.size+1) k A0 c0 ((ch n).take k) wr)
 case atStart=>exact ⟨0,none,0,zO,rfl,R0.out,M0.out⟩
 case round =>
  clear R0 M0;obtain ⟨k,A0,c0,hk,rfl,hR,hM⟩:=hrel;have m0:=hM.1.cell 0;have m1:=hM.1.cell 1;have hO:=hM.2.2.2.2;have RR:=zH hR;have MM:=zH hM;clear hR hM;by_cases hlt:k < 2 * n
  ·obtain ⟨d,hd⟩:∃ d,(if decide (n<=k)=true then zQ (if n<=k then k - n else k) else xQ (if n<=k then k - n else k))=d:=⟨_,rfl⟩;obtain ⟨j,hj⟩:∃ j,(if n<=k then k - n else k)=j:=⟨_,rfl⟩;obtain ⟨z,hz⟩:∃ z,decide (n<=k)=z:=⟨_,rfl⟩;have HT:=zH (show (ch n).take (k+1)=(ch n).take k++[d] by rw [db (NP hlt),hd]);rw [hj,hz] at hd;have j4:j < 4:=by rw [<- hj];split<;>omega
   have HD:=zH hd;have rm:((k:Int)).tmod (n:Int)=(j:Int):=by
    rw [Int.tmod_eq_emod_of_nonneg zO,<- Int.natCast_emod,<- hj];congr 1;split
    ·rename_i h;rw [Nat.mod_eq_sub_mod h,Nat.mod_eq_of_lt zO]
    ·exact Nat.mod_eq_of_lt zO
   have rm':(k:Int) % (n:Int)=(j:Int):=by rw [<- Int.tmod_eq_emod_of_nonneg zO];exact rm
   have hzz:decide (n<=k)=z:=hz;have hn0:¬ (n=0):=zO;clear hj hz hd;go_wp2_with fail;have EN:∀ w5,Below wr wr w5->MB w n (w.heap.size+1) k A0 c0 ((ch n).take k) w5:=fun w5 b=>MM.below b
   go_region_law (first
    |(go_simp;go_at_call 148;(with_reducible refine (fU n j z d _ j4 HD.out).mono ?_);rintro e w4 ⟨rfl,b4⟩;have M4:MB w n (w.heap.size+1) k A0 c0 ((ch n).take k) w4:=EN _ (aC b4);have ⟨e0,e1⟩:=M4.cells;have hO4:=M4.2.2.2.2)
    |(refine bv zF (.tmp 18) (.tmp 27) 71 zF Tryz.underlying71 fc hz2 zD zA (M4.alloc _).2.1 zA (Rd.lit _ 151 #[n,d.x,d.z,d.p] 1 4 rfl) zV zO zD zS ?_;intro A5 c5 w5 o5 g5;have Y2:=(M4.alloc _).grown g5;have ⟨q0,q1,e0,e1⟩:=Y2.two)
    |fail)
   all_goals go_wp2_with fail
   all_goals go_roundg (gk - 1)
   all_goals first
    |omega
    |exact ⟨k+1,A5,c5,zO,by go_num,(M4.alloc _).keeps g5 ((RR.below (aC b4)).alloc _) zO,by rw [HT.out];exact (M4.alloc _).push g5 o5⟩
  ·obtain rfl:k=2 * n:=zO;obtain ⟨r0,r1,r2,r3⟩:=RR.two;have hrs:(ch n).take (2 * n)=ch n:=List.take_of_length_le (by rw [DK];exact zR);have HM:=MM.out;rw [hrs] at HM;go_wp2_with fail;have RB:=RR.out
   with_reducible refine eD RB ?_ ?_ ⟨A0,c0,rfl,?_,?_⟩
   ·intro wS z0 z1;simp [results,Tryz.results110,go_sem,z0,z1]
   ·rfl
   ·exact ae (yz HM.2.1 zO _ _) zO
   ·exact ay HM.2.2.1 zO _ _
theorem uz {t r:List (Int × Int)} {k:Nat} {x y m:Int} (hd:t.drop k=(x,y) :: r) (h:(x == m)=true):au (t.drop k) m=y:=by rw [hd,au,if_pos h]
theorem sD {t r:List (Int × Int)} {k:Nat} {x y m:Int} (hd:t.drop k=(x,y) :: r) (h:(x == m)=false):au (t.drop k) m=au r m:=by rw [hd,au,if_neg (by rw [h];simp)]
theorem JM {p:Prop} (h:p:=by rw [<- HQ.out,List.drop_eq_nil_of_le (by have:=HT.out.1;omega)];rfl):p:=h
theorem Sz (N H:Int) (AT AO:Option Addr) (nT cT nO cO:Nat) (t:List (Int × Int)) (m:Int) (w:World) (hT:RdP w AT nT t) (b1:nT<=1099511627776) :
  Calls Tryz.prog 80 #[.agg #[N,H,.slice AT nT cT,.slice AO nO cO],m] w fun e w'=>e=.returned (.int .i64 (au t m))/\Below w w w':=by
 have HT:=zH hT;clear hT;have BZ:=zH ((Below.refl w w).alloc zR (.cells #[N,H,.slice AT nT cT,.slice AO nO cO] 88));obtain ⟨R,hR⟩:∃ R,au t m=R:=⟨_,rfl⟩;rw [hR];have HR:=zH hR;clear hR;go_enter Tryz.func80,Tryz.ntmps80;go_wp2_with fail;go_loopg [10] nT (fun r j wr=>∃ k:Nat,k+r=nT/\j=.int .i64 k/\au (t.drop k) m=R/\Below w w wr)
 case atStart=>exact ⟨0,zO,rfl,HR.out,BZ.out⟩
 case round =>
  obtain ⟨k,hk,rfl,hq,hb⟩:=hrel;have HQ:=zH hq;have HB:=zH hb;have hbs:=hb.size;clear hq hb;by_cases hlt:k < nT
  ·obtain ⟨g,off,x,y,rfl,hBb,hd,c0,c1⟩:=(HT.below HB.out).at_ hlt;have HD:=zH hd;have hkI:(k:Int) < (nT:Int):=zO;clear hd;cases hxm:x == m
   ·have H1:=zH hxm;go_wp2_with fail;go_roundg (gk - 1)
    case measure=>omega
    case rel=>exact ⟨k+1,zO,by go_num,by rw [<- HQ.out,sD HD.out H1.out],HB.alloc hbs _⟩
   ·have H1:=zH hxm;go_wp2_with fail;go_ret;exact ⟨cR (by rw [<- HQ.out,uz HD.out H1.out]),HB.alloc hbs _⟩
  ·have HE:Hid (0=R):=zH JM;go_wp2_with fail;go_ret;exact ⟨cR HE,HB⟩
theorem SC (N H:Int) (AT AO:Option Addr) (nT cT nO cO:Nat) (t:List (Int × Int)) (m:Int) (w:World) (hT:RdP w AT nT t) (b1:nT<=1099511627776) :
  Calls Tryz.prog 103 #[.agg #[N,H,.slice AT nT cT,.slice AO nO cO],m] w fun e w'=>e=.returned (.int .i64 (au t m))/\Below w w w':=by
 have BZ:=zH ((Below.refl w w).alloc zR (.cells #[N,H,.slice AT nT cT,.slice AO nO cO] 88));have HT:=zH (hT.below BZ);clear hT;have X0:=zH (Bx.new w 88 #[N,H,.slice AT nT cT,.slice AO nO cO]);obtain ⟨R,hR⟩:∃ R,au t m=R:=⟨_,rfl⟩;rw [hR];have HR:=zH hR;clear hR;go_enter Tryz.func103,Tryz.ntmps103;go_wp2_with fail;generalize w.alloc (.cells #[N,H,.slice AT nT cT,.slice AO nO cO] 88)=wz at HT X0 BZ ⊢;obtain ⟨p0,p1,p2,p3,_⟩:=X0.four;go_loopg [5] nT (fun r j wr=>∃ k:Nat,k+r=nT/\j=.int .i64 k/\au (t.drop k) m=R/\wr=wz)
 case atStart=>exact ⟨0,zO,rfl,HR.out,rfl⟩
 case round =>
  obtain ⟨k,hk,rfl,hq,rfl⟩:=hrel;have HQ:=zH hq;clear hq;by_cases hlt:k < nT
  ·obtain ⟨g,off,x,y,rfl,hBb,hd,c0,c1⟩:=HT.at_ hlt;have HD:=zH hd;have hkI:(k:Int) < (nT:Int):=zO;clear hd;cases hxm:x == m
   ·have H1:=zH hxm;go_wp2_with fail;go_roundg (gk - 1)
    case measure=>omega
    case rel=>exact ⟨k+1,zO,by go_num,by rw [<- HQ.out,sD HD.out H1.out],rfl⟩
   ·have H1:=zH hxm;go_wp2_with fail;go_ret;exact ⟨cR (by rw [<- HQ.out,uz HD.out H1.out]),BZ.out⟩
  ·have HE:Hid (0=R):=zH JM;go_wp2_with fail;go_ret;exact ⟨cR HE,BZ⟩
theorem nm {w:World} {base:Nat} {e:TypeId} {sz n:Nat} {v:Value} {xs:List Value} (h:w.ownsRow base e sz v n xs):some w.heap.size ≠ v.ownBlock:=fun he=>by have:=(h.lt _ he.symm).2;omega
theorem sE {w:World} {base:Nat} {e:TypeId} {sz n:Nat} {v:Value} {xs:List Value} {r:Nat} {es:Array MapEntry} {ck:Nat} (h:w.ownsRow base e sz v n xs) (hm:w.heap[r]? = some (.map es ck)):some r ≠ v.ownBlock:=by
 rcases h.2 with ⟨rfl,_⟩ | ⟨g',cap,cur,rfl,_,hh,_⟩
 ·simp [Value.ownBlock]
 ·intro he;have:r=g':=by simpa [Value.ownBlock] using he
  subst this;rw [hm] at hh;cases hh
theorem fO {w:World} {g t r:Nat} {cs:Array Value} {es:Array MapEntry} {ck:Nat} (h:Bx w g t cs) (hm:w.heap[r]? = some (.map es ck)):g ≠ r:=by
 rintro rfl;unfold Bx at h;rw [hm] at h;cases h
theorem jy {w:World} {base:Nat} {e:TypeId} {sz n:Nat} {v:Value} {xs:List Value} {r:Nat} {es:Array MapEntry} {ck:Nat} (h:w.ownsRow base e sz v n xs) (hm:w.heap[r]? = some (.map es ck)) (o:Obj):({ w with heap:=w.heap.setIfInBounds r o }:World).ownsRow base e sz v n xs:=by
 have hne:=sE h hm;refine ⟨h.1,?_⟩;rcases h.2 with h0 | ⟨g,cap,cur,hv,h2,h3,h4⟩
 ·exact .inl h0
 ·refine .inr ⟨g,cap,cur,hv,h2,?_,h4⟩;show (w.heap.setIfInBounds r o)[g]? = _;rw [Array.getElem?_setIfInBounds_ne (by intro e;subst e;exact hne (by rw [hv];rfl))];exact h3
theorem FE {w w':World} {r:Nat} {o:Obj} {row:Option Nat} (h:w.heap[r]? = some o) (hg:w.grownBy w' row) (hne:some r ≠ row):w'.heap[r]? = some o:=(hg.block r (Array.getElem?_eq_some_iff.1 h).1 hne).trans h
theorem map_set {w:World} {r:Nat} {o:Obj} (h:w.heap[r]? = some o) {p:Addr} (u:Value) (hne:r ≠ p.block):(w.setCell p u).heap[r]? = some o:=(Below.heap_setCell w p u r hne).trans h
def FI (g6 g10:Nat) (M:Po) (AW:Option Addr) (cW:Nat) (BW:Option Addr) (dW:Nat) (w0:World) (p:Po) (A2:Option Addr) (c2:Nat) (B2:Option Addr) (d2:Nat) (gm:Nat) (es:Array MapEntry) (ck:Nat) (met:List Int) (A:Option Addr) (c:Nat) (acc:List Gt) (wr:World):Prop :=
 Bx wr g6 88 #[M.N,M.H,.slice AW M.t.length cW,.slice BW M.o.length dW]/\Bx wr g10 88 #[p.N,p.H,.slice A2 p.t.length c2,.slice B2 p.o.length d2] ∧
  wr.ownsRow w0 128 2 (.slice AW M.t.length cW) M.t.length (aj M.t)/\wr.ownsRow w0 128 2 (.slice A2 p.t.length c2) p.t.length (aj p.t)/\wr.ownsRow w0 93 2 (.slice B2 p.o.length d2) p.o.length (aj p.o) ∧
  wr.ownsRow w0 39 4 (.slice A acc.length c) acc.length (af acc)/\(wr.heap[gm]? = some (.map es ck)/\EntsI es.toList met/\w0.heap.size<=gm)/\Below w0 w0 wr/\w0.heap.size<=g10/\g6 ≠ g10
def FS (g6 g10:Nat) (M:Po) (AW:Option Addr) (cW:Nat) (BW:Option Addr) (dW:Nat) (w0:World) (p:Po) (A2:Option Addr) (c2:Nat) (B2:Option Addr) (d2:Nat) (AM:Option Addr) (cM:Nat) (met:List Int) (A:Option Addr) (c:Nat) (acc:List Gt) (wr:World):Prop :=
 Bx wr g6 88 #[M.N,M.H,.slice AW M.t.length cW,.slice BW M.o.length dW]/\Bx wr g10 88 #[p.N,p.H,.slice A2 p.t.length c2,.slice B2 p.o.length d2] ∧
  wr.ownsRow w0 128 2 (.slice AW M.t.length cW) M.t.length (aj M.t)/\wr.ownsRow w0 128 2 (.slice A2 p.t.length c2) p.t.length (aj p.t)/\wr.ownsRow w0 93 2 (.slice B2 p.o.length d2) p.o.length (aj p.o) ∧
  wr.ownsRow w0 39 4 (.slice A acc.length c) acc.length (af acc)/\wr.ownsRow w0 3 1 (.slice AM met.length cM) met.length (aB met)/\Below w0 w0 wr/\w0.heap.size<=g10/\g6 ≠ g10
section
variable {g6 g10:Nat} {M:Po} {AW:Option Addr} {cW:Nat} {BW:Option Addr} {dW:Nat} {w0:World} {p:Po} {A2:Option Addr} {c2:Nat} {B2:Option Addr} {d2:Nat} {gm:Nat} {es:Array MapEntry} {ck:Nat} {met:List Int} {A:Option Addr} {c:Nat} {acc:List Gt} {wr w':World}
theorem FI.alloc (h:FI g6 g10 M AW cW BW dW w0 p A2 c2 B2 d2 gm es ck met A c acc wr) (o:Obj):FI g6 g10 M AW cW BW dW w0 p A2 c2 B2 d2 gm es ck met A c acc (wr.alloc o):=by
 obtain ⟨x6,x10,tw,tp,op,ga,⟨hm,he,hgm⟩,hb,h10,hne⟩:=h;exact ⟨x6.alloc o,x10.alloc o,tw.alloc o,tp.alloc o,op.alloc o,ga.alloc o,⟨rg hm,he,hgm⟩,hb.alloc hb.size o,h10,hne⟩
theorem FI.below (h:FI g6 g10 M AW cW BW dW w0 p A2 c2 B2 d2 gm es ck met A c acc wr) (b:Below wr wr w'):FI g6 g10 M AW cW BW dW w0 p A2 c2 B2 d2 gm es ck met A c acc w':=by
 obtain ⟨x6,x10,tw,tp,op,ga,⟨hm,he,hgm⟩,hb,h10,hne⟩:=h;exact ⟨x6.below b,x10.below b,ab tw b,ab tp b,ab op b,ab ga b,⟨rh hm b,he,hgm⟩,aa hb b,h10,hne⟩
theorem FI.app (h:FI g6 g10 M AW cW BW dW w0 p A2 c2 B2 d2 gm es ck met A c acc wr) {A':Option Addr} {n' c':Nat} {acc':List Gt} (hg:wr.grownBy w' (Value.slice A acc.length c).ownBlock) (ho:w'.ownsRow w0 39 4 (.slice A' n' c') n' (af acc')):FI g6 g10 M AW cW BW dW w0 p A2 c2 B2 d2 gm es ck met A' c' acc' w':=by
 obtain ⟨x6,x10,tw,tp,op,ga,⟨hm,he,hgm⟩,hb,h10,hne⟩:=h;have hn:n'=acc'.length:=by have:=ho.1;rw [fq] at this;omega
 subst hn;exact ⟨az ga hg x6 zD,az ga hg x10 zD,tw.kept hg (aN tw ga zD),tp.kept hg (aN tp ga zD),op.kept hg (aN op ga zD),ho,⟨FE hm hg (sE ga hm),he,hgm⟩,ag hb hb.size ga zR hg,h10,hne⟩
theorem FI.poly (h:FI g6 g10 M AW cW BW dW w0 p A2 c2 B2 d2 gm es ck met A c acc wr) {b:Nat} {q:Po} {A6:Option Addr} {c6:Nat} {B6:Option Addr} {d6:Nat} (ht:wr.ownsRow b 128 2 (.slice A6 q.t.length c6) q.t.length (aj q.t)) (ho:wr.ownsRow b 93 2 (.slice B6 q.o.length d6) q.o.length (aj q.o)) (hbb:w0.heap.size<=b):FI g6 g10 M AW cW BW dW w0 q A6 c6 B6 d6 gm es ck met A c acc ((((wr.setCell ⟨g10,0,none⟩ (.int .i64 q.N)).setCell ⟨g10,1,none⟩ (.int .i64 q.H)).setCell ⟨g10,2,none⟩ (.slice A6 q.t.length c6)).setCell ⟨g10,3,none⟩ (.slice B6 q.o.length d6)):=by
 obtain ⟨x6,x10,tw,tp,op,ga,⟨hm,he,hgm⟩,hb,h10,hne⟩:=h;exact ⟨mQ x6 hne,(((x10.s0 _).s1 _).s2 _).s3 _,bD tw (am tw x10 zD),bD (ae ht hbb) (am ht x10 zD),bD (ae ho hbb) (am ho x10 zD),bD ga (am ga x10 zD),⟨map_set (map_set (map_set (map_set hm _ (fO x10 hm).symm) _ (fO x10 hm).symm) _ (fO x10 hm).symm) _ (fO x10 hm).symm,he,hgm⟩,aF hb h10,h10,hne⟩
theorem FI.upd (h:FI g6 g10 M AW cW BW dW w0 p A2 c2 B2 d2 gm es ck met A c acc wr) (x:Int):FI g6 g10 M AW cW BW dW w0 p A2 c2 B2 d2 gm (es.push { key:=.int .i64 x,val:=.bool true,born:=ck }) (ck+1) (met++[x]) A c acc { wr with heap:=wr.heap.setIfInBounds gm (.map (es.push { key:=.int .i64 x,val:=.bool true,born:=ck }) (ck+1)) }:=by
 obtain ⟨x6,x10,tw,tp,op,ga,⟨hm,he,hgm⟩,hb,h10,hne⟩:=h;exact ⟨x6.setObjI (fO x6 hm) _,x10.setObjI (fO x10 hm) _,jy tw hm _,jy tp hm _,jy op hm _,jy ga hm _,⟨pN hm,he.push x ck,hgm⟩,mL hb hgm _,h10,hne⟩
end
section
variable {g6 g10:Nat} {M:Po} {AW:Option Addr} {cW:Nat} {BW:Option Addr} {dW:Nat} {w0:World} {p:Po} {A2:Option Addr} {c2:Nat} {B2:Option Addr} {d2:Nat} {AM:Option Addr} {cM:Nat} {met:List Int} {A:Option Addr} {c:Nat} {acc:List Gt} {wr w':World}
theorem FS.alloc (h:FS g6 g10 M AW cW BW dW w0 p A2 c2 B2 d2 AM cM met A c acc wr) (o:Obj):FS g6 g10 M AW cW BW dW w0 p A2 c2 B2 d2 AM cM met A c acc (wr.alloc o):=by
 obtain ⟨x6,x10,tw,tp,op,ga,hm,hb,h10,hne⟩:=h;exact ⟨x6.alloc o,x10.alloc o,tw.alloc o,tp.alloc o,op.alloc o,ga.alloc o,hm.alloc o,hb.alloc hb.size o,h10,hne⟩
theorem FS.below (h:FS g6 g10 M AW cW BW dW w0 p A2 c2 B2 d2 AM cM met A c acc wr) (b:Below wr wr w'):FS g6 g10 M AW cW BW dW w0 p A2 c2 B2 d2 AM cM met A c acc w':=by
 obtain ⟨x6,x10,tw,tp,op,ga,hm,hb,h10,hne⟩:=h;exact ⟨x6.below b,x10.below b,ab tw b,ab tp b,ab op b,ab ga b,ab hm b,aa hb b,h10,hne⟩
theorem FS.app (h:FS g6 g10 M AW cW BW dW w0 p A2 c2 B2 d2 AM cM met A c acc wr) {A':Option Addr} {n' c':Nat} {acc':List Gt} (hg:wr.grownBy w' (Value.slice A acc.length c).ownBlock) (ho:w'.ownsRow w0 39 4 (.slice A' n' c') n' (af acc')):FS g6 g10 M AW cW BW dW w0 p A2 c2 B2 d2 AM cM met A' c' acc' w':=by
 obtain ⟨x6,x10,tw,tp,op,ga,hm,hb,h10,hne⟩:=h;have hn:n'=acc'.length:=by have:=ho.1;rw [fq] at this;omega
 subst hn;exact ⟨az ga hg x6 zD,az ga hg x10 zD,tw.kept hg (aN tw ga zD),tp.kept hg (aN tp ga zD),op.kept hg (aN op ga zD),ho,hm.kept hg (aN hm ga zD),ag hb hb.size ga zR hg,h10,hne⟩
theorem FS.poly (h:FS g6 g10 M AW cW BW dW w0 p A2 c2 B2 d2 AM cM met A c acc wr) {b:Nat} {q:Po} {A6:Option Addr} {c6:Nat} {B6:Option Addr} {d6:Nat} (ht:wr.ownsRow b 128 2 (.slice A6 q.t.length c6) q.t.length (aj q.t)) (ho:wr.ownsRow b 93 2 (.slice B6 q.o.length d6) q.o.length (aj q.o)) (hbb:w0.heap.size<=b):FS g6 g10 M AW cW BW dW w0 q A6 c6 B6 d6 AM cM met A c acc ((((wr.setCell ⟨g10,0,none⟩ (.int .i64 q.N)).setCell ⟨g10,1,none⟩ (.int .i64 q.H)).setCell ⟨g10,2,none⟩ (.slice A6 q.t.length c6)).setCell ⟨g10,3,none⟩ (.slice B6 q.o.length d6)):=by
 obtain ⟨x6,x10,tw,tp,op,ga,hm,hb,h10,hne⟩:=h;exact ⟨mQ x6 hne,(((x10.s0 _).s1 _).s2 _).s3 _,bD tw (am tw x10 zD),bD (ae ht hbb) (am ht x10 zD),bD (ae ho hbb) (am ho x10 zD),bD ga (am ga x10 zD),bD hm (am hm x10 zD),aF hb h10,h10,hne⟩
theorem FS.metApp (h:FS g6 g10 M AW cW BW dW w0 p A2 c2 B2 d2 AM cM met A c acc wr) {A':Option Addr} {n' c':Nat} {met':List Int} (hg:wr.grownBy w' (Value.slice AM met.length cM).ownBlock) (ho:w'.ownsRow w0 3 1 (.slice A' n' c') n' (aB met')):FS g6 g10 M AW cW BW dW w0 p A2 c2 B2 d2 A' c' met' A c acc w':=by
 obtain ⟨x6,x10,tw,tp,op,ga,hm,hb,h10,hne⟩:=h;have hn:n'=met'.length:=by have:=ho.1;rw [jH] at this;omega
 subst hn;exact ⟨az hm hg x6 zD,az hm hg x10 zD,tw.kept hg (aN tw hm zD),tp.kept hg (aN tp hm zD),op.kept hg (aN op hm zD),ga.kept hg (aN ga hm zD),ho,ag hb hb.size hm zR hg,h10,hne⟩
end
theorem Bs {p:Prop} (h:p:=by first | rfl | (rw [HTC.out];simp [cG]) | simp):p:=h
theorem Bt {p:Prop} (h:p:=by rw [<- HD.out];exact HCL.out):p:=h
theorem wj {p:Prop} (h:p:=by show _ ≠ g10;omega):p:=h
theorem Bu {p:Prop} (h:p:=by first | rfl | simp):p:=h
theorem JN {p:Prop} (h:p:=by
  go_wp2_with fail;refine (kQ _ _ _).mono ?_;rintro e w5 ⟨A5,c5,rfl,o5,b5⟩;have O5:=zH o5;have S5:=zH (FS.below S4 b5);have hs5:=S5.out.2.2.2.2.2.2.2.1.size;clear o5 b5 z0 z1 y0 y1 y2 y3 hy1
  go_wp2_with (at_builtin;refine ah rfl (.tmp 81) (.tmp 85) 24 rfl Tryz.underlying24 ak hz4 zD rfl S5.out.2.2.2.2.2.1 rfl (Rd.own O5.out) aQ zO zD zO ?_;intro A7 c7 w7 o7 g7;have S7:=zH (FS.app S5.out (acc':=acc++cG (cF (au M.t x) y) (a:Int)) g7 (by rw [HTC.out,av];exact o7)))
  go_roundg (gk - 1)
  case measure=>omega
  case rel=>exact ⟨k+1,q,A8,c8,B8,d8,_,_,met++[x],_,_,acc++cG (cF (au M.t x) y) (a:Int),zO,by go_num,Bs,Bu,by rw [<- HFL.out,HD.out,pu HU.out HXY.out HMT.out HQ1.out],HC1.out,zO,zO,by have h1:=jU (cF (au M.t x) y) (a:Int);have h2:=fS (cF (au M.t x) y);rw [List.length_append];omega,by rw [List.length_append,List.length_singleton];omega,S7.out⟩):p:=h
theorem NQ (A:Option Addr) (n cap:Nat) (gs:List Gt) (N:Int) (w:World) (h:RdG w A n gs) (hn:n<=1073741824) :
  Calls Tryz.prog 57 #[.slice A n cap,N] w (DI (dh gs N) w):=by
 have H:=zH h;have HL:=zH h.1;clear h;obtain ⟨⟨M,mb⟩,hM⟩:∃ R,cE gs N=R:=⟨_,rfl⟩;have HM:=zH hM;have hbd:=yR gs N;rw [hM,HL.out] at hbd;obtain ⟨hb1,hb2⟩:M.t.length<=n/\M.o.length<=4:=hbd;cases mb
 ·have HF:=zH (sy (gs:=gs) (n:=N) (by rw [hM]));clear hM;rw [HF.out];go_enter Tryz.func57,Tryz.ntmps57;go_wp2_with fail;refine (v6 _ _ _ gs N _ H zO).mono ?_;rintro e w1 ⟨v,rfl,⟨A1,c1,B1,d1,rfl,t1,o1⟩,b1⟩;rw [HM.out] at t1 o1 ⊢
  dsimp only at t1 o1 ⊢
  have BX:=zH (b1.alloc b1.size (.cells #[M.N,M.H,.slice A1 M.t.length c1,.slice B1 M.o.length d1] 88));have OG:=zH (show ((w1.alloc (.cells #[M.N,M.H,.slice A1 M.t.length c1,.slice B1 M.o.length d1] 88)).alloc (.cells #[] 39)).ownsRow w 39 4 (.slice (some ⟨w1.heap.size+1,0,none⟩) 0 0) 0 [] from kz (by have:=b1.size;omega) (Bx.new' zI));have HA:=zH (H.below (BX.alloc BX.size (.cells #[] 39)));have hz4:(Value.agg #[(0:Int),(0:Int),(0:Int),(0:Int)]).cells.size=4:=rfl;have hl:=HL.out;subst hl
  go_wp2_with (at_builtin;refine jv rfl (.tmp 25) (.tmp 26) 24 rfl Tryz.underlying24 ak hz4 zD rfl OG.out rfl HA.out.2 aQ zO zD (by have:=b1.size;simp<;>omega) ?_;intro A7 c7 w7 o7 g7)
  go_ret2;exact ⟨A7,c7,rfl,o7,ag (BX.alloc BX.size _) (by have:=b1.size;simp<;>omega) OG.out zR g7⟩
 ·have HF:=zH (pq (gs:=gs) (n:=N) (by rw [hM]));obtain ⟨hin,hcl⟩:=n7 hM;obtain ⟨i1,i2⟩:=DH hin;have I1:=zH i1;clear i1;have HC:=zH hcl;clear hM hin hcl;rw [HF.out,HM.out]
  dsimp only
  have hOl:=iN M.t gs (cg N) [] [];rw [HL.out,List.length_nil,Nat.zero_add] at hOl;obtain ⟨OUT,hO⟩:∃ O,dI M.t (cg N) [] [] gs=O:=⟨_,rfl⟩;rw [hO] at hOl ⊢;have HO:=zH hO;clear hO;obtain ⟨Q,hQ⟩:∃ Q,cE OUT N=Q:=⟨_,rfl⟩;rw [hQ];have HQ:=zH hQ;clear hQ;go_enter Tryz.func57,Tryz.ntmps57;go_wp2_with fail;refine (v6 _ _ _ gs N _ H zO).mono ?_;rintro e w1 ⟨v,rfl,⟨A1,c1,B1,d1,rfl,t1,o1⟩,b1⟩;rw [HM.out] at t1 o1 ⊢
  dsimp only at t1 o1 ⊢
  have hs1:=b1.size;obtain ⟨w3,hw3⟩:∃ w3,w3=((w1.alloc (.cells #[M.N,M.H,.slice A1 M.t.length c1,.slice B1 M.o.length d1] 88)).alloc (.cells #[] 39)).alloc (.cells #[] 3):=⟨_,rfl⟩;have X6:=zH (show Bx w3 w1 88 #[M.N,M.H,.slice A1 M.t.length c1,.slice B1 M.o.length d1] from hw3 ▸ ((Bx.new w1 _ _).alloc _).alloc _);have T1:=zH (show w3.ownsRow w 128 2 (.slice A1 M.t.length c1) M.t.length (aj M.t) from hw3 ▸ ((t1.alloc _).alloc _).alloc _);have B3:=zH (show Below w w w3 from hw3 ▸ ((b1.alloc zO _).alloc zS _).alloc zS _);have OG:=zH (show w3.ownsRow w 39 4 (.slice (some ⟨w1.heap.size+1,0,none⟩) 0 0) 0 (af []) from hw3 ▸ (kz zO (Bx.new' zI)).alloc _);have MP:=zH (show w3.ownsRow w 3 1 (.slice (some ⟨w1.heap.size+1+1,0,none⟩) 0 0) 0 (aB []) from hw3 ▸ kz zO (Bx.new' zI));go_wp2_with fail;rw [<- hw3];clear hw3 t1 o1 b1;refine (PZ _ _).mono ?_
  rintro e w4 ⟨v,rfl,⟨A4,c4,B4,d4,rfl,t4,o4⟩,b4⟩;have hs3:=B3.size;have l6:=(X6.below b4).lt;have hw1:w.heap.size<=w4.heap.size:=(aa B3.out b4).size;have ST:=zH (show FS w1.heap.size w4.heap.size M A1 c1 B1 d1 w (cg N) A4 c4 B4 d4 (some ⟨w1.heap.size+1+1,0,none⟩) 0 [] (some ⟨w1.heap.size+1,0,none⟩) 0 [] (w4.alloc (.cells #[.int .i64 (cg N).N,.int .i64 (cg N).H,.slice A4 (cg N).t.length c4,.slice B4 (cg N).o.length d4] 88)) from ⟨(X6.below b4).alloc _,Bx.new _ _ _,(ab T1.out b4).alloc _,(ae t4 hs3).alloc _,(ae o4 hs3).alloc _,(ab OG.out b4).alloc _,(ab MP.out b4).alloc _,(aa B3.out b4).alloc hw1 _,hw1,zO⟩);clear t4 o4 b4 X6 T1 B3 OG MP;go_wp2_with fail;generalize cg N=p0 at HC HO I1 i2 ST ⊢;generalize hg6:w1.heap.size=g6 at ST l6 ⊢;generalize hg10:w4.heap.size=g10 at ST l6 hw1 ⊢;clear hs1 hs3 hg6 hg10
  obtain ⟨w5,hw5⟩:∃ w5,w5=w4.alloc (.cells #[p0.N,p0.H,.slice A4 p0.t.length c4,.slice B4 p0.o.length d4] 88):=⟨_,rfl⟩;rw [<- hw5] at ST ⊢;clear hw5;go_loopg [8,9,11] n (fun r s mt i wr=>∃ (k:Nat) (p:Po) (A2:Option Addr) (c2:Nat) (B2:Option Addr) (d2:Nat) (A9:Option Addr) (c9:Nat) (met:List Int) (A3:Option Addr) (c3:Nat) (acc:List Gt),k+r=n/\i=.int .i64 k/\s=.slice A3 acc.length c3/\mt=.slice A9 met.length c9/\dI M.t p met acc (gs.drop k)=OUT/\(cp p (gs.drop k)).2=true/\p.t.length<=k/\p.o.length<=4/\acc.length<=2 * k/\met.length<=k/\FS g6 g10 M A1 c1 B1 d1 w p A2 c2 B2 d2 A9 c9 met A3 c3 acc wr)
  case atStart=>exact ⟨0,p0,A4,c4,B4,d4,_,0,[],_,0,[],zO,rfl,rfl,rfl,HO.out,by rw [List.drop_zero,HC.out],by have:=I1.out;omega,i2,zI,zI,ST.out⟩
  case round =>
   clear ST HC HO I1 i2 l6;obtain ⟨k,p,A2,c2,B2,d2,A9,c9,met,A3,c3,acc,hk,rfl,rfl,rfl,hf,hcl,htl,hol,hal,hml,hst⟩:=hrel;have HFL:=zH hf;have HCL:=zH hcl;have ST:=zH hst;clear hf hcl hst;by_cases hlt:k < n
   ·have HB:=zH ST.out.2.2.2.2.2.2.2.1;have hbs:=HB.size;have h10:=ST.out.2.2.2.2.2.2.2.2.1;obtain ⟨bb,off,g,rfl,hBb,hd,c0,c1',c2',c3'⟩:=(H.below HB.out).at_ hlt;have HD:=zH hd;clear hd;have hkI:(k:Int) < (n:Int):=zO;have hk0:(0:Int)<=(k:Int):=zO;have hfit:=uy (p:=p) (g:=g) (r:=gs.drop (k+1)) Bt;have hap:=(i7 (p:=p) (g:=g) (r:=gs.drop (k+1)) Bt).1;obtain ⟨gk',ga',gb',gc'⟩:=g
    dsimp only at c0 c1' c2' c3' hfit
    obtain ⟨a,rfl⟩:∃ a:Nat,ga'=a:=⟨ga'.toNat,zO⟩;obtain ⟨q,hq⟩:∃ q,aJ p ⟨gk',a,gb',gc'⟩=(q,true):=⟨_,Prod.ext rfl hap⟩;have hbd:=iM p ⟨gk',a,gb',gc'⟩;rw [hq] at hbd;have hq1:q.t.length<=p.t.length+1:=hbd.1;have hq2:q.o.length<=p.o.length:=hbd.2.1;have HQ1:=zH hq;have HC1:=zH (sA Bt hq);obtain ⟨ha0,ha1,ha2⟩:=hfit;have haN:a < p.o.length:=zO;have haI:(a:Int) < (p.o.length:Int):=zO;have ha0':(0:Int)<=(a:Int):=zO;obtain ⟨gB,hB2,hgB1,hgB2,u0,u1,_,_⟩:=eY ST.out.2.2.2.2.1 haN;subst hB2;obtain ⟨⟨x,y⟩,hxy⟩:∃ z,p.o.getD a (0,0)=z:=⟨_,rfl⟩;rw [hxy] at u0 u1
    dsimp only at u0 u1
    have HXY:Hid (dg p.o (a:Int)=(x,y)):=zH (by show p.o.getD (Int.toNat a) _=_;rw [Int.toNat_natCast];exact hxy);clear hap hq hbd hxy ha0 ha1 ha2;have lg6:=ST.out.1.lt;have lg10:=ST.out.2.1.lt;obtain ⟨s0,s1,s2,s3,t0,t1,t2,t3⟩:=ST.out.2.1.four;have hz4:(Value.agg #[(0:Int),(0:Int),(0:Int),(0:Int)]).cells.size=4:=rfl;have HNE:=zH (nm ST.out.2.2.2.2.2.1);have S2:=zH (FS.alloc (FS.alloc ST (.cells #[gk',a,gb',gc'] 39)) (.cells #[x,y] 93));have G2:=zH ((Bx.new wr 39 #[gk',a,gb',gc']).alloc (.cells #[x,y] 93));have V2:=zH (Bx.new (wr.alloc (.cells #[gk',a,gb',gc'] 39)) 93 #[x,y]);obtain ⟨W2,hW2⟩:∃ W2,W2=(wr.alloc (.cells #[gk',a,gb',gc'] 39)).alloc (.cells #[x,y] 93):=⟨_,rfl⟩;rw [<- hW2] at S2 G2 V2;have HW2:=zH hW2;clear hW2;have hgs:(wr.alloc (.cells #[gk',a,gb',gc'] 39)).heap.size=wr.heap.size+1:=zI;rw [hgs] at V2;clear hgs;go_wp2_with fail;rw [<- HW2.out];have ST:=S2
    refine (su p.N p.H A2 p.t.length c2 p.t _ p.o.length d2 p.o ⟨gk',a,gb',gc'⟩ _ (RdP.own ST.out.2.2.2.1) (RdP.own ST.out.2.2.2.2.1) zO zO (ao ST.out.2.2.2.1)).mono ?_;rintro e w8 ⟨v,rfl,⟨A8,c8,B8,d8,rfl,t8,o8⟩,b8⟩;rw [show aJ ⟨p.N,p.H,p.t,p.o⟩ ⟨gk',a,gb',gc'⟩=(q,true) from HQ1.out] at t8 o8 ⊢
    dsimp only at t8 o8 ⊢
    clear s0 s1 s2 s3 t0 t1 t2 t3 u0 u1 c0 c1' c2' c3';have hs8:=ST.out.2.2.2.2.2.2.2.1.size;have S8:=zH (FS.below ST b8);obtain ⟨s0,s1,s2,s3,t0,t1,t2,t3⟩:=S8.out.2.1.four;have l8:=S8.out.2.1.lt;have S9:=zH (FS.poly S8 t8 o8 hs8);have G9:=zH (show Bx ((((w8.setCell ⟨g10,0,none⟩ (.int .i64 q.N)).setCell ⟨g10,1,none⟩ (.int .i64 q.H)).setCell ⟨g10,2,none⟩ (.slice A8 q.t.length c8)).setCell ⟨g10,3,none⟩ (.slice B8 q.o.length d8)) wr.heap.size 39 _ from mQ (G2.below b8) zO);have V9:=zH (show Bx ((((w8.setCell ⟨g10,0,none⟩ (.int .i64 q.N)).setCell ⟨g10,1,none⟩ (.int .i64 q.H)).setCell ⟨g10,2,none⟩ (.slice A8 q.t.length c8)).setCell ⟨g10,3,none⟩ (.slice B8 q.o.length d8)) (wr.heap.size+1) 93 _ from Bx.far (Bx.far (Bx.far (Bx.far (V2.below b8) wj _) wj _) wj _) wj _);clear t8 o8 b8 S2 ST S8 G2 V2;go_upto_region 13 with fail
    generalize ((((w8.setCell ⟨g10,0,none⟩ (.int .i64 q.N)).setCell ⟨g10,1,none⟩ (.int .i64 q.H)).setCell ⟨g10,2,none⟩ (.slice A8 q.t.length c8)).setCell ⟨g10,3,none⟩ (.slice B8 q.o.length d8))=W9 at S9 G9 V9 ⊢;clear s0 s1 s2 s3 t0 t1 t2 t3 l8 hs8;obtain ⟨z0,z1,_,_⟩:=V9.two;obtain ⟨y0,y1,y2,y3,_,_,_,_⟩:=G9.four;have hs9:=S9.out.2.2.2.2.2.2.2.1.size;have hz4:(Value.agg #[(0:Int),(0:Int),(0:Int),(0:Int)]).cells.size=4:=rfl;have hz1:(Value.int .i64 0).cells.size=1:=rfl;cases hu:(al gk' == 0)
    rotate_left
    ·have HU:=zH hu;go_wp2_with fail;refine (aT _ _).mono ?_;rintro e w' ⟨rfl,rfl⟩;have SA:=zH (FS.alloc S9 (.cells #[gk',a,gb',gc'] 39));have RL2:=zH (Rd.lit W9 39 #[gk',a,gb',gc'] 1 4 rfl)
     go_wp2_with (at_builtin;refine ah rfl (.tmp 58) (.tmp 60) 24 rfl Tryz.underlying24 ak hz4 zD rfl SA.out.2.2.2.2.2.1 rfl RL2.out zV zO zD zS ?_;intro A7 c7 w7 o7 g7;have S7:=zH (FS.app SA.out (acc':=acc++[⟨gk',a,gb',gc'⟩]) g7 (by rw [av];exact o7)))
     go_roundg (gk - 1)
     case measure=>omega
     case rel=>exact ⟨k+1,q,A8,c8,B8,d8,_,_,met,_,_,acc++[⟨gk',a,gb',gc'⟩],zO,by go_num,Bs,Bu,by rw [<- HFL.out,HD.out,vZ HU.out HQ1.out],HC1.out,zO,zO,by have:=hal;simp;omega,zO,S7.out⟩
    ·have HU:=zH hu;have MR:=zH S9.out.2.2.2.2.2.2.1;go_wp2_with fail;refine (aT _ _).mono ?_;rintro e w' ⟨rfl,rfl⟩;go_wp2_with fail;refine (u9 _ _ _ met x _ (RdI.own MR) zO).mono ?_;rintro e w' ⟨rfl,rfl⟩;cases hm:met.any (· == x)
     rotate_left
     ·have HMT:=zH hm;rw [show gH met x=true from hm];clear hm;go_wp2_with fail;go_roundg (gk - 1)
      case measure=>omega
      case rel=>exact ⟨k+1,q,A8,c8,B8,d8,_,_,met,_,_,acc,zO,by go_num,Bs,Bu,by rw [<- HFL.out,HD.out,pt HU.out HXY.out HMT.out HQ1.out],HC1.out,zO,zO,zO,zO,S9.out⟩
     ·have HMT:=zH hm;rw [show gH met x=false from hm];clear hm;obtain ⟨cv,hcv⟩:∃ c,au M.t x=c:=⟨_,rfl⟩;have HCV:=zH hcv;have SA:=zH (FS.alloc S9 (.cells #[x] 3));have GA:=zH (G9.alloc (.cells #[x] 3));have VA:=zH (V9.alloc (.cells #[x] 3));have RL2:=zH (Rd.lit W9 3 #[x] 1 1 rfl)
      go_wp2_with (at_builtin;refine ah rfl (.tmp 66) (.tmp 69) 58 rfl Tryz.underlying58 gY hz1 zD rfl SA.out.2.2.2.2.2.2.1 rfl RL2.out zV zO zD zS ?_;intro A6 c6 w6 o6 g6';have S6:=zH (FS.metApp SA.out (met':=met++[x]) g6' (by rw [mK];exact o6));have G6:=zH (az SA.out.2.2.2.2.2.2.1 g6' GA.out zD);have V6:=zH (az SA.out.2.2.2.2.2.2.1 g6' VA.out zD);have ⟨r0,r1,r2,r3,_,_,_,_⟩:=S6.out.1.four;have ⟨z0',z1',_,_⟩:=V6.two)
      refine (SC _ _ _ _ _ _ _ _ M.t x _ (RdP.own S6.out.2.2.1) zO).mono ?_;rintro e w4 ⟨rfl,bk⟩;rw [hcv];clear hcv;have S4:=zH (FS.below S6 bk);have G4:=zH (G6.below bk);have V4:=zH (V6.below bk);clear z0 z1 y0 y1 y2 y3;obtain ⟨z0,z1,_,_⟩:=V4.two;obtain ⟨y0,y1,y2,y3,_,_,_,_⟩:=G4.four;clear bk S9 G9 V9 SA GA VA RL2 S6 G6 V6 MR;cases hy1:(y == 1)
      ·have HY1:=zH hy1;have HTC:Hid (cF (au M.t x) y=cv):=zH (by rw [HCV.out];exact DG hy1);obtain ⟨cc,hcc⟩:∃ c,cv=c:=⟨_,rfl⟩;subst hcc;have hrk:=fS cv;exact JN
      ·have HY1:=zH hy1;have HTC:Hid (cF (au M.t x) y=((-cv) % 8)):=zH (by rw [HCV.out];exact DF hy1);go_wp2_with fail;refine (fI _ _).mono ?_;rintro e w' ⟨rfl,rfl⟩;rw [fd];obtain ⟨cc,hcc⟩:∃ c,((-cv) % 8)=c:=⟨_,rfl⟩;rw [hcc] at HTC ⊢;clear hcc;have hrk:=fS cc;exact JN
   ·have hkn:k=n:=zO;have hE:acc=OUT:=by have e:=HFL.out;rw [List.drop_eq_nil_of_le (by have:=HL.out;omega)] at e;exact e
    subst hE;clear HFL HCL hkn;have GA:=zH ST.out.2.2.2.2.2.1;go_wp2_with fail;refine (v6 _ _ _ acc N _ (RdG.own GA) zO).mono ?_;rintro e w8 ⟨v,rfl,⟨A8,c8,B8,d8,rfl,t8,o8⟩,b8⟩;rw [HQ.out] at t8 o8 ⊢;have S8:=zH (FS.below ST b8);obtain ⟨r0,r1,r2,r3,_,_,_,_⟩:=S8.out.1.four;have l8:=S8.out.1.lt;have hb8:=S8.out.2.2.2.2.2.2.2.1.size;clear t8 o8 b8;go_wp2_with fail;refine (fI _ _).mono ?_;rintro e w' ⟨rfl,rfl⟩;rw [fd];go_wp2_with fail;go_ret2;exact ⟨A3,c3,rfl,S8.out.2.2.2.2.2.1.alloc _,S8.out.2.2.2.2.2.2.2.1.alloc hb8 _⟩
def fv:List (Int × Int)->Prop
 |[]=>True
 |p :: r=>(∀ q ∈ r,p.1 < q.1)/\1<=p.2/\p.2<=7/\fv r
def mJ:List (Int × Int)->Int->Int->List (Int × Int)
 |[],m,c=>if c % 8=0 then [] else [(m,c % 8)]
 |p :: r,m,c =>
  if m < p.1 then (if c % 8=0 then p :: r else (m,c % 8) :: p :: r)
  else if p.1=m then (if (p.2+c) % 8=0 then r else (m,(p.2+c) % 8) :: r)
  else p :: mJ r m c
theorem JO {p:Prop} (h:p:=by
  unfold nz at ih ⊢;rw [List.filter_cons,if_pos (by have:=h.2.1;simp;omega),ih]):p:=h
theorem sF:∀ (l:List (Int × Int)),fv l->nz l=l
 |[],_=>rfl
 |p :: r,h=>by
  have ih:=sF r h.2.2.2;exact JO
theorem uA (m:Int):∀ (l:List (Int × Int)) (i:Nat),kw m (i+1) l=(kw m i l).map (· + 1)
 |[],_=>rfl
 |p :: r,i=>by
  rw [kw,kw];split
  ·rfl
  ·exact uA m r (i+1)
theorem uB (m:Int):∀ (l:List (Int × Int)) (i:Nat),li m (i+1) l=li m i l+1
 |[],_=>rfl
 |p :: r,i=>by
  rw [li,li];split
  ·exact uB m r (i+1)
  ·rfl
theorem yU (m:Int):∀ (l:List (Int × Int)) (i:Nat),(∀ q ∈ l,m < q.1)->kw m i l=none
 |[],_,_=>rfl
 |p :: r,i,h=>by
  have:=h p zI;rw [kw,if_neg zJ];exact yU m r (i+1) fun q hq=>h q (by simp [hq])
theorem Bv {p:Int × Int} {r:List (Int × Int)} {m:Int} (h:p.1 < m):cQ (p :: r) m=p :: cQ r m/\ur (p :: r) m=ur r m+1:=by
 have e1:kw m 0 (p :: r)=(kw m 0 r).map (· + 1):=by rw [kw,if_neg zJ,uA]
 have e2:li m 0 (p :: r)=li m 0 r+1:=by rw [li,if_pos zJ,uB]
 unfold cQ ur;rw [e1,e2];cases kw m 0 r with
 |none=>simp
 |some k=>simp
theorem FF (p:Int × Int) (l:List (Int × Int)) (k:Nat) (c:Int):iY (p :: l) (k+1) c=p :: iY l k c:=by
 simp [iY]
theorem sG (m c:Int):∀ (t:List (Int × Int)),fv t->cD t m c=mJ t m c
 |[],_=>by
  unfold cD cQ ur;simp only [kw,li,mJ,iY,nz];by_cases h:c % 8=0<;>simp [h]
 |p :: r,h=>by
  have ih:=sG m c r h.2.2.2;have hr:=sF r h.2.2.2;rw [mJ];by_cases h1:m < p.1
  ·rw [if_pos h1];have e1:kw m 0 (p :: r)=none:=yU m _ 0 (by
    intro q hq;rcases List.mem_cons.1 hq with hq | hq
    ·rw [hq];exact h1
    ·have:=h.1 q hq;omega)
   have e2:li m 0 (p :: r)=0:=by rw [li,if_neg zJ]
   obtain ⟨w1,w2⟩:=mv e1;unfold cD;rw [w1,w2,e2];have hpr:=sF (p :: r) h;simp only [List.take_zero,List.nil_append,List.drop_zero,iY,List.getD_cons_zero,List.set_cons_zero,Int.zero_add];unfold nz at hpr ⊢;rw [List.filter_cons];by_cases hc:c % 8=0
   ·rw [if_neg (by simp [hc]),hpr,if_pos hc]
   ·rw [if_pos (by simp [hc]),hpr,if_neg hc]
  ·rw [if_neg h1];by_cases h2:p.1=m
   ·rw [if_pos h2];have e1:kw m 0 (p :: r)=some 0:=by rw [kw,if_pos (by simp [h2])]
    obtain ⟨w1,w2⟩:=mu e1;unfold cD;rw [w1,w2];simp only [iY,List.getD_cons_zero,List.set_cons_zero];unfold nz at hr ⊢;rw [List.filter_cons,h2];by_cases hc:(p.2+c) % 8=0
    ·rw [if_neg (by simp [hc]),hr,if_pos hc]
    ·rw [if_pos (by simp [hc]),hr,if_neg hc]
   ·rw [if_neg h2];obtain ⟨w1,w2⟩:=Bv (p:=p) (r:=r) (m:=m) zO;unfold cD at ih ⊢;rw [w1,w2,FF];exact JO
theorem yV (m c:Int):∀ (t:List (Int × Int)),∀ q ∈ mJ t m c,q.1=m\/∃ q' ∈ t,q'.1=q.1
 |[],q,hq=>by
  rw [mJ] at hq;split at hq
  ·simp at hq
  ·simp at hq;exact .inl (by rw [hq])
 |p :: r,q,hq=>by
  rw [mJ] at hq;split at hq
  ·split at hq
   ·exact .inr ⟨q,hq,rfl⟩
   ·rcases List.mem_cons.1 hq with h | h
    ·exact .inl (by rw [h])
    ·exact .inr ⟨q,h,rfl⟩
  ·split at hq
   ·split at hq
    ·exact .inr ⟨q,by simp [hq],rfl⟩
    ·rcases List.mem_cons.1 hq with h | h
     ·exact .inl (by rw [h])
     ·exact .inr ⟨q,by simp [h],rfl⟩
   ·rcases List.mem_cons.1 hq with h | h
    ·exact .inr ⟨p,zI,by rw [h]⟩
    ·rcases yV m c r q h with h3 | ⟨q',h3,h4⟩
     ·exact .inl h3
     ·exact .inr ⟨q',by simp [h3],h4⟩
theorem sH (m c:Int):∀ (t:List (Int × Int)),fv t->fv (mJ t m c)
 |[],_=>by
  rw [mJ];split
  ·trivial
  ·exact ⟨zI,by show 1<=c % 8;omega,by show c % 8<=7;omega,trivial⟩
 |p :: r,h=>by
  rw [mJ];split
  ·split
   ·exact h
   ·refine ⟨?_,by show 1<=c % 8;omega,by show c % 8<=7;omega,h⟩;intro q hq;rcases List.mem_cons.1 hq with h1 | h1
    ·rw [h1];assumption
    ·have:=h.1 q h1;show m < q.1;omega
  ·split
   ·split
    ·exact h.2.2.2
    ·refine ⟨fun q hq=>?_,by show 1<=(p.2+c) % 8;omega,by show (p.2+c) % 8<=7;omega,h.2.2.2⟩;have:=h.1 q hq;show m < q.1;omega
   ·refine ⟨fun q hq=>?_,h.2.1,h.2.2.1,sH m c r h.2.2.2⟩;rcases yV m c r q hq with h1 | ⟨q',h1,h2⟩
    ·rw [h1];omega
    ·rw [<- h2];exact h.1 q' h1
theorem gO {m:Int}:∀ {t:List (Int × Int)},(∀ q ∈ t,m < q.1)->au t m=0
 |[],_=>rfl
 |p :: r,h=>by
  have:=h p zI;rw [au,if_neg zJ];exact gO fun q hq=>h q (by simp [hq])
theorem n9:∀ {t:List (Int × Int)} (m:Int),fv t->0<=au t m/\au t m<=7
 |[],_,_=>by simp [au]
 |p :: r,m,h=>by
  rw [au];split
  ·exact ⟨by have:=h.2.1;omega,h.2.2.1⟩
  ·exact n9 m h.2.2.2
theorem uC (m c m':Int):∀ (t:List (Int × Int)),fv t->au (mJ t m c) m'=if m'=m then (au t m+c) % 8 else au t m'
 |[],_=>by
  rw [mJ];by_cases hm:m'=m
  ·subst hm;rw [if_pos rfl];split
   ·simp only [au];omega
   ·simp only [au,beq_self_eq_true,if_true];omega
  ·rw [if_neg hm];split
   ·rfl
   ·simp only [au];rw [if_neg zJ]
 |p :: r,h=>by
  have ih:=uC m c m' r h.2.2.2;have hp:=h.2;rw [mJ];by_cases h1:m < p.1
  ·rw [if_pos h1];have h0:au (p :: r) m=0:=gO (by
    intro q hq;rcases List.mem_cons.1 hq with hq | hq
    ·rw [hq];exact h1
    ·have:=h.1 q hq;omega)
   by_cases hm:m'=m
   ·subst hm;rw [if_pos rfl,h0];split
    ·rw [h0];omega
    ·rw [au,if_pos zI];simp
   ·rw [if_neg hm];split
    ·rfl
    ·rw [au,if_neg zJ]
  ·rw [if_neg h1];by_cases h2:p.1=m
   ·rw [if_pos h2];have h0:au r m=0:=gO (by rw [<- h2];exact h.1);have h3:au (p :: r) m=p.2:=by rw [au,if_pos (by simp [h2])]
    by_cases hm:m'=m
    ·subst hm;rw [if_pos rfl,h3];split
     ·rw [h0];omega
     ·rw [au,if_pos zI]
    ·rw [if_neg hm];have h4:au (p :: r) m'=au r m':=by rw [au,if_neg zJ]
     rw [h4];split
     ·rfl
     ·rw [au,if_neg zJ]
   ·rw [if_neg h2];have h3:au (p :: r) m=au r m:=by rw [au,if_neg zJ]
    rw [h3,au,ih];by_cases hm:m'=m
    ·subst hm;rw [if_pos rfl,if_neg zJ];simp
    ·rw [if_neg hm,if_neg hm,au]
theorem mC:∀ {a b:List (Int × Int)},fv a->fv b->(∀ m,au a m=au b m)->a=b
 |[],[],_,_,_=>rfl
 |[],q :: s,_,hb,h=>by
  have:=h q.1;rw [au,au,if_pos zI] at this;have:=hb.2.1;omega
 |p :: r,[],ha,_,h=>by
  have h1:=h p.1;have h2:au (p :: r) p.1=p.2:=by rw [au,if_pos zI]
  have h3:au [] p.1=0:=rfl;have:=ha.2.1;omega
 |p :: r,q :: s,ha,hb,h=>by
  have hlt:∀ {p q:Int × Int} {r s:List (Int × Int)},fv (p :: r)->fv (q :: s)->(∀ m,au (p :: r) m=au (q :: s) m)->¬ p.1 < q.1:=by
   intro p q r s ha hb h hl;have h1:=h p.1;rw [au,if_pos zI,gO (by
    intro x hx;rcases List.mem_cons.1 hx with hx | hx
    ·rw [hx];exact hl
    ·have:=hb.1 x hx;omega)] at h1
   have:=ha.2.1;omega
  have e1:p.1=q.1:=by
   have h1:=hlt ha hb h;have h2:=hlt hb ha (fun m=>(h m).symm);omega
  have e2:p.2=q.2:=by
   have h1:=h p.1;rw [au,if_pos zI,au,if_pos (by simp [e1])] at h1;exact h1
  have e3:p=q:=Prod.ext e1 e2;subst e3;rw [mC ha.2.2.2 hb.2.2.2 (fun m=>?_)];have h1:=h m;rw [au,au] at h1;by_cases hm:(p.1 == m)=true
  ·have hm':p.1=m:=by simpa using hm
   rw [gO (by rw [<- hm'];exact ha.1),gO (by rw [<- hm'];exact hb.1)]
  ·rw [if_neg hm,if_neg hm] at h1;exact h1
def fo:List (Int × Int)->Int
 |[]=>0
 |p :: r=>p.2 % 2+fo r
theorem sI (m c:Int):∀ (t:List (Int × Int)),fv t->fo (mJ t m c)+au t m % 2=fo t+(au t m+c) % 8 % 2
 |[],_=>by
  rw [mJ];split
  ·simp only [fo,au];omega
  ·simp only [fo,au];omega
 |p :: r,h=>by
  have ih:=sI m c r h.2.2.2;rw [mJ];by_cases h1:m < p.1
  ·rw [if_pos h1];have h0:au (p :: r) m=0:=gO (by
    intro q hq;rcases List.mem_cons.1 hq with hq | hq
    ·rw [hq];exact h1
    ·have:=h.1 q hq;omega)
   rw [h0];split
   ·omega
   ·simp only [fo];omega
  ·rw [if_neg h1];by_cases h2:p.1=m
   ·rw [if_pos h2];have h3:au (p :: r) m=p.2:=by rw [au,if_pos (by simp [h2])]
    rw [h3];split
    ·simp only [fo];omega
    ·simp only [fo];omega
   ·rw [if_neg h2];have h3:au (p :: r) m=au r m:=by rw [au,if_neg zJ]
    rw [h3];simp only [fo];omega
theorem gd {t:List (Int × Int)} (h:fv t) (m c:Int):fo (cD t m c)<=fo t+c % 2/\fv (cD t m c)/\∀ m',au (cD t m c) m'=if m'=m then (au t m+c) % 8 else au t m':=by
 rw [sG m c t h];have h1:=sI m c t h;have h2:=n9 m h;exact ⟨zO,sH m c t h,fun m'=>uC m c m' t h⟩
theorem JP {t:List (Int × Int)} (h:fv t) (m a b:Int):cD (cD t m a) m b=cD t m (a+b):=by
 obtain ⟨_,c1,e1⟩:=gd h m a;obtain ⟨_,c2,e2⟩:=gd c1 m b;obtain ⟨_,c3,e3⟩:=gd h m (a+b);refine mC c2 c3 fun m'=>?_
 rw [e2,e3,e1,e1];by_cases hm:m'=m
 ·rw [if_pos hm,if_pos hm,if_pos rfl];omega
 ·rw [if_neg hm,if_neg hm,if_neg hm]
theorem pv:∀ (a b:List Gt) (p:Po),(cp p a).2=true->cp p (a++b)=cp (cp p a).1 b
 |[],b,p,_=>rfl
 |g :: r,b,p,h=>by
  obtain ⟨h1,h2⟩:=i7 h;rw [List.cons_append,ew h1,ew h1];exact pv r b _ h2
def sg (y c:Int):Int:=if (y == 0)=true then c else -c
theorem wk {q:Po} {k a x y:Int} (hk:3<=k) (hk8:k<=8) (hk4:k ≠ 4) (h1:1<=q.N) (h4:q.N<=4) (ha:0<=a) (ha2:a < q.N) (ho:(q.o.length:Int)=q.N) (hx:dg q.o a=(x,y)) :
  aJ q ⟨k,a,0,0⟩=(⟨q.N,if (y == 0)=true then q.H else (q.H+al k) % 8,cD q.t x (sg y (al k)),q.o⟩,true):=by
 have har:aA k=1:=by rcases bd k with h | h | h | h<;>omega
 have hok:lN q ⟨k,a,0,0⟩=true:=by
  unfold lN;rw [PY har h1 h4 ha zO];simp [ho]
 rw [er hok];have hu:(al k == 0)=false:=by rcases dA k with h | h | h | h | h | h<;>simp<;>omega
 unfold dG sg;rw [if_neg zJ,if_neg zJ,if_neg zJ,if_neg (by show ¬ ((al k == 0)=true);rw [hu];simp)];show (if ((dg q.o a).2 == 0)=true then _ else _)=_;rw [hx];by_cases hy:(y == 0)=true
 ·rw [if_pos hy];simp only [if_pos hy]
 ·rw [if_neg hy];simp only [if_neg hy]
theorem SD {t:List (Int × Int)} (h:fv t) (x:Int):cD t x 0=t:=by
 obtain ⟨_,c1,e1⟩:=gd h x 0;refine mC c1 h fun m=>?_
 rw [e1];split
 ·rename_i hm;have:=n9 x h;rw [hm];omega
 ·rfl
theorem NR {q:Po} {c a x y:Int} (hc0:0<=c) (hc7:c<=7) (h1:1<=q.N) (h4:q.N<=4) (ha:0<=a) (ha2:a < q.N) (ho:(q.o.length:Int)=q.N) (hx:dg q.o a=(x,y)) (hC:fv q.t) (hH:0<=q.H/\q.H<=7) :
  ∃ H',0<=H'/\H'<=7/\cp q (cG c a)=(⟨q.N,H',cD q.t x (sg y c),q.o⟩,true):=by
 have one:∀ k,3<=k->k<=8->k ≠ 4->∃ H',0<=H'/\H'<=7/\cp q [⟨k,a,0,0⟩]=(⟨q.N,H',cD q.t x (sg y (al k)),q.o⟩,true):=by
  intro k b1 b2 b3;have e:=wk b1 b2 b3 h1 h4 ha ha2 ho hx;refine ⟨if (y == 0)=true then q.H else (q.H+al k) % 8,?_,?_,?_⟩
  ·split<;>omega
  ·split<;>omega
  ·rw [ew (by rw [e]),e];rfl
 have two:∀ k k',3<=k->k<=8->k ≠ 4->3<=k'->k'<=8->k' ≠ 4->∃ H',0<=H'/\H'<=7/\cp q [⟨k,a,0,0⟩,⟨k',a,0,0⟩]=(⟨q.N,H',cD q.t x (sg y (al k+al k')),q.o⟩,true):=by
  intro k k' b1 b2 b3 d1 d2 d3;have e:=wk b1 b2 b3 h1 h4 ha ha2 ho hx;rw [ew (by rw [e]),e];have e2:=wk (q:=⟨q.N,if (y == 0)=true then q.H else (q.H+al k) % 8,cD q.t x (sg y (al k)),q.o⟩) d1 d2 d3 h1 h4 ha ha2 ho hx;refine ⟨if (y == 0)=true then (if (y == 0)=true then q.H else (q.H+al k) % 8) else ((if (y == 0)=true then q.H else (q.H+al k) % 8)+al k') % 8,?_,?_,?_⟩
  ·split<;>omega
  ·split<;>omega
  ·rw [ew (by rw [e2]),e2];show (_,true)=(_,true);have e3:sg y (al k+al k')=sg y (al k)+sg y (al k'):=by unfold sg;split<;>omega
   rw [e3,<- JP hC]
 obtain h | h | h | h | h | h | h | h:c=0\/c=1\/c=2\/c=3\/c=4\/c=5\/c=6\/c=7:=zO
 all_goals subst h
 ·refine ⟨q.H,hH.1,hH.2,?_⟩;have e:sg y 0=0:=by unfold sg;split<;>rfl
  rw [e,SD hC];rfl
 ·exact one 7 zO zO zO
 ·exact one 5 zO zO zO
 ·exact two 5 7 zO zO zO zO zO zO
 ·exact one 3 zO zO zO
 ·exact two 3 7 zO zO zO zO zO zO
 ·exact one 6 zO zO zO
 ·exact one 8 zO zO zO
def yW (o:List (Int × Int)):Prop:=∀ q ∈ o,q.2=0\/q.2=1
theorem ie {o:List (Int × Int)} (h:yW o) (a:Int):(dg o a).2=0\/(dg o a).2=1:=by
 unfold dg;rw [List.getD_eq_getElem?_getD];cases e:o[a.toNat]? with
 |none=>exact .inl rfl
 |some q=>exact h q (List.mem_of_getElem? e)
theorem ig {o:List (Int × Int)} (h:yW o) (k:Nat) (x y:Int) (hy:y=0\/y=1):yW (o.set k (x,y)):=by
 intro q hq;rcases List.mem_or_eq_of_mem_set hq with h1 | h1
 ·exact h q h1
 ·rw [h1];exact hy
theorem Qd {a b:Int} (ha:a=0\/a=1) (hb:b=0\/b=1):bits .xor .i64 a b=0\/bits .xor .i64 a b=1:=by
 rcases ha with rfl | rfl<;>rcases hb with rfl | rfl
 ·left;decide
 ·right;decide
 ·right;decide
 ·left;decide
def Mb (p:Po):Prop:=fv p.t/\yW p.o/\0<=p.H/\p.H<=7
theorem JQ {p:Po} {g:Gt} (h:Mb p) (hs:(dG p g).2=true):Mb (dG p g).1/\(dG p g).1.N=p.N/\(dG p g).1.o.length=p.o.length/\fo (dG p g).1.t<=fo p.t+(if g.k=7\/g.k=8 then 1 else 0):=by
 obtain ⟨hC,hF,h0,h7⟩:=h;have hz:(0:Int)<=if g.k=7\/g.k=8 then 1 else 0:=by split<;>omega
 unfold dG at hs ⊢;by_cases h1:(g.k == 1)=true
 ·rw [if_pos h1];refine ⟨⟨hC,ig hF _ _ _ ?_,h0,h7⟩,rfl,zI,by show fo p.t<=_;omega⟩;rcases ie hF g.a with h | h<;>rw [h]
  ·right;unfold wrap64;omega
  ·left;unfold wrap64;omega
 ·rw [if_neg h1] at hs ⊢;by_cases h2:(g.k == 9)=true
  ·rw [if_pos h2];exact ⟨⟨hC,ig hF _ _ _ (Qd (ie hF _) (ie hF _)),h0,h7⟩,rfl,zI,by show fo p.t<=_;omega⟩
  ·rw [if_neg h2] at hs ⊢;by_cases h3:(g.k == 11)=true
   ·rw [if_pos h3];exact ⟨⟨hC,ig (ig hF _ _ _ (ie hF _)) _ _ _ (ie hF _),h0,h7⟩,rfl,zI,by show fo p.t<=_;omega⟩
   ·rw [if_neg h3] at hs ⊢;by_cases h4:(al g.k == 0)=true
    ·rw [if_pos h4] at hs;cases hs
    ·rw [if_neg h4];have hu:al g.k % 2<=(if g.k=7\/g.k=8 then 1 else 0)/\(-al g.k) % 2<=(if g.k=7\/g.k=8 then 1 else 0):=by
      rcases dA g.k with h | h | h | h | h | h
      ·rw [if_pos (.inl h.1)];omega
      ·rw [if_neg zO];omega
      ·rw [if_neg zO];omega
      ·rw [if_neg zO];omega
      ·rw [if_pos (.inr h.1)];omega
      ·rw [if_neg zO];omega
     by_cases h5:((dg p.o g.a).2 == 0)=true
     ·rw [if_pos h5];obtain ⟨e1,e2,_⟩:=gd hC (dg p.o g.a).1 (al g.k);exact ⟨⟨e2,hF,h0,h7⟩,rfl,rfl,by show fo (cD _ _ _)<=_;omega⟩
     ·rw [if_neg h5];obtain ⟨e1,e2,_⟩:=gd hC (dg p.o g.a).1 (-al g.k);refine ⟨⟨e2,hF,?_,?_⟩,rfl,rfl,by show fo (cD _ _ _)<=_;omega⟩
      ·show 0<=(p.H+al g.k) % 8;omega
      ·show (p.H+al g.k) % 8<=7;omega
theorem Bw {p q:Po} {g:Gt} (h:Mb p) (hs:aJ p g=(q,true)):Mb q/\q.N=p.N/\q.o.length=p.o.length/\fo q.t<=fo p.t+(if g.k=7\/g.k=8 then 1 else 0):=by
 have hk:lN p g=true:=gN (by rw [hs]);rw [er hk] at hs;have:=JQ h (g:=g) (by rw [hs]);rw [hs] at this;exact this
theorem JR {p:Prop} (h:p:=by
  intro q hq;simp only [mw,List.mem_map] at hq;obtain ⟨i,_,rfl⟩:=hq;exact .inl rfl):p:=h
theorem NT {n:Int} (h:ee n 1 4=true):Mb (cg n)/\(cg n).N=n/\((cg n).o.length:Int)=n/\fo (cg n).t=0:=by
 obtain ⟨h1,h4⟩:=inB_iff.1 h;have e:cg n=⟨n,0,[],mw n.toNat⟩:=by unfold cg;rw [if_pos h]
 rw [e];refine ⟨⟨trivial,?_,by show (0:Int)<=0;omega,by show (0:Int)<=7;omega⟩,rfl,by show ((mw n.toNat).length:Int)=n;rw [fx];omega,rfl⟩;exact JR
theorem By {p:Prop} (h:p:=by
  injection hs with hs _;subst hs
  exact ⟨rfl,rfl,by rw [ho]⟩):p:=h
theorem NU {p p1 q:Po} {g:Gt} (hu:(al g.k == 0)=true) (hs:aJ p g=(p1,true)) (hN:q.N=p.N) (ho:q.o=p.o):p1.t=p.t/\p1.N=p.N/\aJ q g=(⟨q.N,q.H,q.t,p1.o⟩,true):=by
 have hk:lN p g=true:=gN (by rw [hs]);have hkq:lN q g=true:=by unfold lN at hk ⊢;rw [hN,ho];exact hk
 rw [er hk] at hs;rw [er hkq];unfold dG at hs ⊢;by_cases h1:(g.k == 1)=true
 ·rw [if_pos h1] at hs ⊢;exact By
 ·rw [if_neg h1] at hs ⊢;by_cases h2:(g.k == 9)=true
  ·rw [if_pos h2] at hs ⊢;exact By
  ·rw [if_neg h2] at hs ⊢;by_cases h3:(g.k == 11)=true
   ·rw [if_pos h3] at hs ⊢;exact By
   ·rw [if_neg h3,if_pos hu] at hs;injection hs with _ hs;cases hs
theorem JS {p:Prop} (h:p:=by
  exact ⟨rfl,rfl,fun m hm=>by show au (cD _ _ _) m=_;rw [e3,if_neg hm],zO,zO,zO,zO⟩):p:=h
theorem Bz {p p1:Po} {g:Gt} (hu:(al g.k == 0)=false) (hs:aJ p g=(p1,true)) (hC:fv p.t):p1.o=p.o/\p1.N=p.N/\(∀ m,m ≠ (dg p.o g.a).1->au p1.t m=au p.t m)/\0<=g.a/\g.a < p.N/\1<=p.N/\p.N<=4:=by
 have hk:lN p g=true:=gN (by rw [hs]);obtain ⟨hg,hl⟩:=cL hk;have hab:=eI hg;rw [er hk] at hs;have hn:¬ (g.k == 1)=true/\¬ (g.k == 9)=true/\¬ (g.k == 11)=true:=by
  simp at hu;rcases dA g.k with h | h | h | h | h | h<;>simp<;>omega
 unfold dG at hs;rw [if_neg hn.1,if_neg hn.2.1,if_neg hn.2.2,if_neg (by rw [hu];simp)] at hs;by_cases h5:((dg p.o g.a).2 == 0)=true
 ·rw [if_pos h5] at hs;injection hs with hs _;subst hs
  obtain ⟨_,_,e3⟩:=gd hC (dg p.o g.a).1 (al g.k);exact JS
 ·rw [if_neg h5] at hs;injection hs with hs _;subst hs
  obtain ⟨_,_,e3⟩:=gd hC (dg p.o g.a).1 (-al g.k);exact JS
def jO (b m:Int):Int:=gT (bits .and .i64 b m) % 2
theorem DL (b m:Int):jO b m=0\/jO b m=1:=by unfold jO;omega
def fQ (b:Int):List (Int × Int)->Int
 |[]=>0
 |p :: r=>p.2 * jO b p.1+fQ b r
theorem sJ (b:Int):∀ l m:List (Int × Int),fQ b (l++m)=fQ b l+fQ b m
 |[],m=>by simp [fQ]
 |p :: r,m=>by rw [List.cons_append,fQ,fQ,sJ b r m];omega
theorem DM (b:Int):∀ l:List (Int × Int),fQ b (nz l)=fQ b l
 |[]=>rfl
 |p :: r=>by
  have ih:=DM b r;unfold nz at ih ⊢;rw [List.filter_cons];by_cases h:p.2=0
  ·rw [if_neg (by simp [h]),ih,fQ,h];omega
  ·rw [if_pos (by simp [h]),fQ,fQ,ih]
theorem uD (b c:Int):∀ (l:List (Int × Int)) (k:Nat),k < l.length->fQ b (iY l k c) % 8=(fQ b l+c * jO b (l.getD k (0,0)).1) % 8
 |[],k,h=>by simp at h
 |p :: r,0,h=>by
  show ((p.2+c) % 8 * jO b p.1+fQ b r) % 8=(p.2 * jO b p.1+fQ b r+c * jO b p.1) % 8;rcases DL b p.1 with e | e<;>rw [e]<;>omega
 |p :: r,k+1,h=>by
  have ih:=uD b c r k (by simpa using h);show (p.2 * jO b p.1+fQ b (iY r k c)) % 8=(p.2 * jO b p.1+fQ b r+c * jO b (r.getD k (0,0)).1) % 8;omega
theorem DN (m:Int):∀ (t:List (Int × Int)) (i k:Nat),kw m i t=some k->(t.getD (k - i) (0,0)).1=m
 |[],i,k,h=>by cases h
 |p :: r,i,k,h=>by
  have hk:=vH m i (p :: r) k h;rw [kw] at h;split at h
  ·rename_i hm;injection h with h;subst h
   rw [Nat.sub_self];exact by simpa using hm
  ·have hk2:=vH m (i+1) r k h;have:=DN m r (i+1) k h;rw [show k - i=(k - (i+1))+1 by omega];exact this
theorem JT (t:List (Int × Int)) (m:Int):((cQ t m).getD (ur t m) (0,0)).1=m:=by
 cases h:kw m 0 t with
 |some k =>
  obtain ⟨e1,e2⟩:=mu h;rw [e1,e2];exact DN m t 0 k h
 |none =>
  obtain ⟨e1,e2⟩:=mv h;have hp:=ni m 0 t;rw [e1,e2,List.getD_eq_getElem?_getD,List.getElem?_append_right (by rw [List.length_take];omega),List.length_take,show li m 0 t - min (li m 0 t) t.length=0 by omega];rfl
theorem FH (b:Int) (t:List (Int × Int)) (m:Int):fQ b (cQ t m)=fQ b t:=by
 cases h:kw m 0 t with
 |some k=>rw [(mu h).1]
 |none =>
  rw [(mv h).1,sJ,fQ];have:=sJ b (t.take (li m 0 t)) (t.drop (li m 0 t));rw [List.take_append_drop] at this;omega
theorem yX (b:Int) (t:List (Int × Int)) (m c:Int):fQ b (cD t m c) % 8=(fQ b t+c * jO b m) % 8:=by
 unfold cD;rw [DM,uD b c _ _ (r8 t m),JT,FH]
def jj:List Nat->Nat
 |[]=>0
 |x :: r=>x+2 * jj r
def qv (b:Int) (o:Int × Int):Nat:=(vL b o).toNat
theorem DO (b:Int) (o:Int × Int):vL b o=0\/vL b o=1:=by unfold vL;omega
theorem NY (b:Int) (o:Int × Int):qv b o<=1:=by unfold qv;have:=DO b o;omega
def mono (g:Gt):Bool:=g.k == 1 || (g.k == 9 || (g.k == 11 || !(al g.k == 0)))
def uE (g:Gt) (xs:List Nat):List Nat :=
 if g.k=1 then xs.set g.a.toNat (1 - xs.getD g.a.toNat 0)
 else if g.k=9 then xs.set g.b.toNat ((xs.getD g.a.toNat 0+xs.getD g.b.toNat 0) % 2)
 else if g.k=11 then (xs.set g.a.toNat (xs.getD g.b.toNat 0)).set g.b.toNat (xs.getD g.a.toNat 0)
 else xs
def Mc (g:Gt) (xs:List Nat):Nat:=if g.k=1 then 0 else if g.k=9 then 0 else if g.k=11 then 0 else (al g.k).toNat * xs.getD g.a.toNat 0
def NZ:Nat->List (List Nat)
 |0=>[[]]
 |n+1=>(NZ n).flatMap fun r=>[0 :: r,1 :: r]
theorem sK:∀ {n:Nat} {xs:List Nat},xs.length=n->(∀ x ∈ xs,x<=1)->xs ∈ NZ n
 |0,xs,h,_=>by rw [List.eq_nil_of_length_eq_zero h];exact List.mem_singleton.2 rfl
 |n+1,[],h,_=>by simp at h
 |n+1,x :: r,h,hb=>by
  have ih:=sK (n:=n) (xs:=r) (by simpa using h) (fun y hy=>hb y (by simp [hy]));have hx:=hb x zI;refine List.mem_flatMap.2 ⟨r,ih,?_⟩;obtain rfl | rfl:x=0\/x=1:=zO
  ·simp
  ·simp
def JU (n:Nat):Bool:=(bC n).all fun g=>!mono g || (NZ n).all fun xs=>decide (bU g (jj xs)=[(jj (uE g xs),cV (Mc g xs))]) && (decide (jj xs < 2 ^ n) && (decide (uE g (uE g xs)=xs) && (uE g xs).all fun x=>decide (x<=1)))
theorem U9:JU 1=true:=by decide +kernel
theorem Va:JU 2=true:=by decide +kernel
theorem Vb:JU 3=true:=by decide +kernel
theorem Vc:JU 4=true:=by decide +kernel
theorem JV {n:Nat} (h:1<=n/\n<=4):JU n=true:=by
 obtain rfl | rfl | rfl | rfl:n=1\/n=2\/n=3\/n=4:=zO
 ·exact U9
 ·exact Va
 ·exact Vb
 ·exact Vc
theorem DP {n:Nat} {g:Gt} {xs:List Nat} (hg:bF n g=true) (hm:mono g=true) (hl:xs.length=n) (h01:∀ x ∈ xs,x<=1) :
  bU g (jj xs)=[(jj (uE g xs),cV (Mc g xs))]/\jj xs < 2 ^ n/\uE g (uE g xs)=xs/\∀ x ∈ uE g xs,x<=1:=by
 have h:=List.all_eq_true.1 (JV (dm hg)) g (cS hg);rw [hm] at h;simp only [Bool.not_true,Bool.false_or] at h;have h2:=List.all_eq_true.1 h xs (sK hl h01);simp only [Bool.and_eq_true,decide_eq_true_eq,List.all_eq_true] at h2;exact ⟨h2.1,h2.2.1,h2.2.2.1,h2.2.2.2⟩
theorem qS (g:Gt) (xs:List Nat):(uE g xs).length=xs.length:=by
 unfold uE;split
 ·rw [List.length_set]
 ·split
  ·rw [List.length_set]
  ·split
   ·rw [List.length_set,List.length_set]
   ·rfl
def Wq:Bool:=(List.range 16).all fun a=>(List.range 16).all fun c=>(decide (0<=bits .xor .i64 (a:Int) (c:Int)) && decide (bits .xor .i64 (a:Int) (c:Int) < 16)) && (List.range 16).all fun b=>decide (jO (b:Int) (bits .xor .i64 (a:Int) (c:Int))=(jO (b:Int) (a:Int)+jO (b:Int) (c:Int)) % 2)
theorem SE:Wq=true:=by decide +kernel
theorem Oa {a c:Int} (ha:0<=a/\a < 16) (hc:0<=c/\c < 16):(0<=bits .xor .i64 a c/\bits .xor .i64 a c < 16)/\∀ b:Nat,b < 16->jO (b:Int) (bits .xor .i64 a c)=(jO (b:Int) a+jO (b:Int) c) % 2:=by
 have h1:=List.all_eq_true.1 (List.all_eq_true.1 SE a.toNat (List.mem_range.2 zO)) c.toNat (List.mem_range.2 zO);rw [show ((a.toNat:Nat):Int)=a by omega,show ((c.toNat:Nat):Int)=c by omega] at h1;simp only [Bool.and_eq_true,decide_eq_true_eq] at h1;refine ⟨h1.1,fun b hb=>?_⟩;have:=List.all_eq_true.1 h1.2 b (List.mem_range.2 hb);simpa using this
def Mk (o:List (Int × Int)):Prop:=∀ q ∈ o,0<=q.1/\q.1 < 16
theorem JW {o:List (Int × Int)} (h:Mk o) (a:Int):0<=(dg o a).1/\(dg o a).1 < 16:=by
 unfold dg;rw [List.getD_eq_getElem?_getD];cases e:o[a.toNat]? with
 |none=>exact ⟨Int.le_refl _,zD⟩
 |some q=>exact h q (List.mem_of_getElem? e)
theorem wu {o:List (Int × Int)} (h:Mk o) (k:Nat) (q:Int × Int) (hq:0<=q.1/\q.1 < 16):Mk (o.set k q):=by
 intro x hx;rcases List.mem_or_eq_of_mem_set hx with h1 | h1
 ·exact h x h1
 ·rw [h1];exact hq
def da (b:Nat) (p:Po):List Nat:=p.o.map (qv (b:Int))
def Ob (b:Nat) (p:Po):Int:=(p.H+fQ (b:Int) p.t) % 8
theorem DQ (b:Nat) {p:Po} {a:Int} (h:a.toNat < p.o.length):(da b p).getD a.toNat 0=qv (b:Int) (dg p.o a):=by
 unfold da dg;rw [List.getD_eq_getElem?_getD,List.getD_eq_getElem?_getD,List.getElem?_map,List.getElem?_eq_getElem h];rfl
theorem qT (b:Nat) (o:List (Int × Int)) (k:Nat) (q:Int × Int):(o.set k q).map (qv (b:Int))=(o.map (qv (b:Int))).set k (qv (b:Int) q):=List.map_set
theorem BF {p:Prop} (h:p:=by
  show (p.H+fQ b p.t) % 8=((p.H+fQ b p.t) % 8+((0:Nat):Int)) % 8;omega):p:=h
theorem sL {p q:Po} {g:Gt} {n b:Nat} (hs:aJ p g=(q,true)) (hN:p.N=(n:Int)) (hF:yW p.o) (hM:Mk p.o) (hb:b < 16) :
  bF n g=true/\mono g=true/\q.N=(n:Int)/\yW q.o/\Mk q.o/\p.o.length=n/\da b q=uE g (da b p)/\Ob b q=(Ob b p+Mc g (da b p)) % 8:=by
 have hk:lN p g=true:=gN (by rw [hs]);obtain ⟨hg,hl⟩:=cL hk;have hab:=eI hg;rw [er hk] at hs;have hgn:bF n g=true:=by unfold bF;rw [<- hN];exact hg
 have hln:p.o.length=n:=zO;have la:g.a.toNat < p.o.length:=zO;have lb:g.b.toNat < p.o.length:=zO;have fa:=ie hF g.a;have fb:=ie hF g.b;have ma:=JW hM g.a;have mb:=JW hM g.b;have ea:=DQ b (p:=p) la;have eb:=DQ b (p:=p) lb;unfold dG at hs;by_cases h1:(g.k == 1)=true
 ·have h1':g.k=1:=by simpa using h1
  rw [if_pos h1] at hs;injection hs with hs _;subst hs
  refine ⟨hgn,by simp [mono,h1'],hN,ig hF _ _ _ ?_,wu hM _ _ ma,hln,?_,?_⟩
  ·unfold wrap64;omega
  ·unfold da at ea ⊢;show (p.o.set _ _).map _=_;unfold uE;rw [if_pos h1',qT,ea];congr 1;unfold qv vL wrap64;simp only;omega
  ·unfold Mc;rw [if_pos h1'];exact BF
 ·have h1':¬ g.k=1:=by simpa using h1
  rw [if_neg h1] at hs;by_cases h2:(g.k == 9)=true
  ·have h2':g.k=9:=by simpa using h2
   rw [if_pos h2] at hs;injection hs with hs _;subst hs
   obtain ⟨x1,x2⟩:=Oa ma mb;refine ⟨hgn,by simp [mono,h2'],hN,ig hF _ _ _ (Qd fa fb),wu hM _ _ x1,hln,?_,?_⟩
   ·unfold da at ea eb ⊢;show (p.o.set _ _).map _=_;unfold uE;rw [if_neg h1',if_pos h2',qT,ea,eb];congr 1;have xb:=x2 b hb;unfold jO at xb;have xf:bits .xor .i64 (dg p.o g.a).2 (dg p.o g.b).2=((dg p.o g.a).2+(dg p.o g.b).2) % 2:=by
     have:=Wl (dg p.o g.a).2 (dg p.o g.b).2;rw [show (dg p.o g.a).2 % 2=(dg p.o g.a).2 by omega,show (dg p.o g.b).2 % 2=(dg p.o g.b).2 by omega] at this;exact this
    unfold qv vL;simp only;rw [xf];omega
   ·unfold Mc;rw [if_neg h1',if_pos h2'];exact BF
  ·have h2':¬ g.k=9:=by simpa using h2
   rw [if_neg h2] at hs;by_cases h3:(g.k == 11)=true
   ·have h3':g.k=11:=by simpa using h3
    rw [if_pos h3] at hs;injection hs with hs _;subst hs
    refine ⟨hgn,by simp [mono,h3'],hN,ig (ig hF _ _ _ fb) _ _ _ fa,wu (wu hM _ _ mb) _ _ ma,hln,?_,?_⟩
    ·unfold da at ea eb ⊢;show ((p.o.set _ _).set _ _).map _=_;unfold uE;rw [if_neg h1',if_neg h2',if_pos h3',qT,qT,ea,eb]
    ·unfold Mc;rw [if_neg h1',if_neg h2',if_pos h3'];exact BF
   ·have h3':¬ g.k=11:=by simpa using h3
    rw [if_neg h3] at hs;by_cases h4:(al g.k == 0)=true
    ·rw [if_pos h4] at hs;injection hs with _ hs;cases hs
    ·rw [if_neg h4] at hs;have hu:0<=al g.k:=by rcases dA g.k with h | h | h | h | h | h<;>omega
     have hmo:mono g=true:=by
      unfold mono;rw [show (al g.k == 0)=false by simpa using h4];simp
     have emv:uE g (da b p)=da b p:=by unfold uE;rw [if_neg h1',if_neg h2',if_neg h3']
     have ek:Mc g (da b p)=(al g.k).toNat * qv (b:Int) (dg p.o g.a):=by unfold Mc;rw [if_neg h1',if_neg h2',if_neg h3',ea]
     have e2:((Mc g (da b p):Nat):Int)=al g.k * vL (b:Int) (dg p.o g.a):=by
      rw [ek,Int.natCast_mul];congr 1
      ·omega
      ·unfold qv;have:=DO (b:Int) (dg p.o g.a);omega
     have eb2:vL (b:Int) (dg p.o g.a)=(jO (b:Int) (dg p.o g.a).1+(dg p.o g.a).2) % 2:=by unfold vL jO;omega
     have hp:=DL (b:Int) (dg p.o g.a).1;by_cases h5:((dg p.o g.a).2 == 0)=true
     ·rw [if_pos h5] at hs;injection hs with hs _;subst hs
      have hf:(dg p.o g.a).2=0:=by simpa using h5
      refine ⟨hgn,hmo,hN,hF,hM,hln,emv.symm,?_⟩;rw [e2,eb2,hf];have hs:=yX (b:Int) p.t (dg p.o g.a).1 (al g.k);show (p.H+fQ b (cD p.t (dg p.o g.a).1 (al g.k))) % 8=((p.H+fQ b p.t) % 8+_) % 8;rcases hp with hp | hp<;>rw [hp] at hs ⊢<;>simp only [Int.mul_zero,Int.mul_one,Int.add_zero,Int.zero_emod,show (1:Int) % 2=1 from rfl] at hs ⊢<;>omega
     ·rw [if_neg h5] at hs;injection hs with hs _;subst hs
      have hf:(dg p.o g.a).2=1:=by
       rcases fa with h | h
       ·exact absurd (by simpa using h) h5
       ·exact h
      refine ⟨hgn,hmo,hN,hF,hM,hln,emv.symm,?_⟩;rw [e2,eb2,hf];have hs:=yX (b:Int) p.t (dg p.o g.a).1 (-al g.k);show ((p.H+al g.k) % 8+fQ b (cD p.t (dg p.o g.a).1 (-al g.k))) % 8=((p.H+fQ b p.t) % 8+_) % 8;rcases hp with hp | hp<;>rw [hp] at hs ⊢<;>simp only [Int.mul_zero,Int.mul_one,Int.zero_add,Int.add_zero,show (1:Int) % 2=1 from rfl,show ((1:Int)+1) % 2=0 from rfl] at hs ⊢<;>omega
theorem i8 (b:Nat) (p:Po):∀ x ∈ da b p,x<=1:=by
 intro x hx;obtain ⟨q,_,rfl⟩:=List.mem_map.1 hx;exact NY _ _
theorem eC (b:Nat) (p:Po):(da b p).length=p.o.length:=by unfold da;rw [List.length_map]
def VW:List Gt->List Nat->List Nat
 |[],xs=>xs
 |g :: r,xs=>VW r (uE g xs)
theorem yY {n:Nat}:∀ (gs:List Gt) (p q:Po),cp p gs=(q,true)->p.N=(n:Int)->p.o.length=n->1<=n/\n<=4->yW p.o->Mk p.o →
  (∀ g ∈ gs,bF n g=true/\mono g=true)/\q.N=(n:Int)/\q.o.length=n/\∀ b,b < 16->da b q=VW gs (da b p)/\(∃ k:Nat,Ob b q=(Ob b p+k) % 8/\aX gs (eN (2 ^ n) (jj (da b p)))=cB (fw k) (eN (2 ^ n) (jj (da b q))))/\jj (da b q) < 2 ^ n
 |[],p,q,hc,hN,hl,hn,hF,hM=>by
  injection hc with hc _;subst hc
  refine ⟨zI,hN,hl,fun b hb=>⟨rfl,⟨0,?_,?_⟩,?_⟩⟩
  ·unfold Ob;omega
  ·rw [nQ];rfl
  ·have hx:da b p ∈ NZ n:=sK (by rw [eC,hl]) (i8 b p);have:∀ m:Nat,∀ xs:List Nat,xs.length=m->(∀ x ∈ xs,x<=1)->jj xs < 2 ^ m:=by
    intro m
    induction m with
    |zero=>intro xs h _;rw [List.eq_nil_of_length_eq_zero h];decide
    |succ m ih =>
     intro xs h h1
     match xs,h with
     |x :: r,h =>
      have h2:=ih r (by simpa using h) (fun y hy=>h1 y (by simp [hy]));have h3:=h1 x zI;show x+2 * jj r < 2 ^ (m+1);rw [Nat.pow_succ];omega
   exact this n _ (by rw [eC,hl]) (i8 b p)
 |g :: r,p,q,hc,hN,hl,hn,hF,hM=>by
  obtain ⟨h1,_⟩:=i7 (p:=p) (g:=g) (r:=r) (by rw [hc]);obtain ⟨p1,hp1⟩:∃ p1,aJ p g=(p1,true):=⟨_,Prod.ext rfl h1⟩;have hp2:cp p1 r=(q,true):=by rw [ew (by rw [hp1]),hp1] at hc;exact hc
  obtain ⟨a1,a2,a3,a4,a5,a6,_,_⟩:=sL (b:=0) hp1 hN hF hM zO;have l1:p1.o.length=n:=by
   have e7:=(sL (b:=0) hp1 hN hF hM zO).2.2.2.2.2.2.1;have:=congrArg List.length e7;rw [qS,eC,eC] at this;omega
  obtain ⟨i1,i2,i3,i4⟩:=yY r p1 q hp2 a3 l1 hn a4 a5;refine ⟨fun x hx=>?_,i2,i3,fun b hb=>?_⟩
  ·rcases List.mem_cons.1 hx with rfl | hx
   ·exact ⟨a1,a2⟩
   ·exact i1 x hx
  ·obtain ⟨j1,⟨k,j2,j3⟩,j4⟩:=i4 b hb;obtain ⟨_,_,_,_,_,_,s1,s2⟩:=sL (b:=b) hp1 hN hF hM hb;obtain ⟨m1,m2,m3,m4⟩:=DP a1 a2 (xs:=da b p) (by rw [eC,hl]) (i8 b p);have m5:=(DP a1 a2 (xs:=uE g (da b p)) (by rw [qS,eC,hl]) m4).2.1;refine ⟨?_,⟨Mc g (da b p)+k,?_,?_⟩,j4⟩
   ·rw [j1,s1];rfl
   ·rw [j2,s2,Int.natCast_add];omega
   ·show aX r (dL g _)=_;rw [Iv m2 m5 m1,(aI r (fun x hx=>(i1 x hx).1)).2.1 _ _ (be _ _),<- s1,j3,rP,Nat.add_comm k]
def Wr (n:Nat):Bool:=(List.range (2 ^ n)).all fun b=>decide (jj ((mw n).map (qv (b:Int)))=b)
theorem JX {n:Nat} (h:1<=n/\n<=4):Wr n=true:=by
 obtain rfl | rfl | rfl | rfl:n=1\/n=2\/n=3\/n=4:=zO
 all_goals decide +kernel
theorem JY {n:Nat} (h:n<=4):2 ^ n<=16:=Nat.pow_le_pow_right (n:=2) zO h
theorem SH {n:Nat} (h:1<=n/\n<=4):cg (n:Int)=⟨n,0,[],mw n⟩/\Mk (mw n)/\yW (mw n):=by
 refine ⟨?_,?_,?_⟩
 ·unfold cg;rw [if_pos (bG zO zO),Int.toNat_natCast]
 ·intro q hq;simp only [mw,List.mem_map] at hq;obtain ⟨i,hi,rfl⟩:=hq;have:=List.mem_range.1 hi;obtain rfl | rfl | rfl | rfl:i=0\/i=1\/i=2\/i=3:=zO
  all_goals decide
 ·exact JR
theorem uF {gs:List Gt} {n:Nat} {M:Po} (h:cE gs (n:Int)=(M,true)) :
  (1<=n/\n<=4)/\(∀ g ∈ gs,bF n g=true/\mono g=true)/\M.N=(n:Int)/\M.o.length=n ∧
  (∀ b,b < 2 ^ n->aX gs (eN (2 ^ n) b)=cB (fw (Ob b M).toNat) (eN (2 ^ n) (jj (da b M)))/\jj (da b M) < 2 ^ n) ∧
  (∀ b c,b < 2 ^ n->c < 2 ^ n->jj (da b M)=jj (da c M)->b=c):=by
 obtain ⟨hin,hc⟩:=n7 h;obtain ⟨n1,n4⟩:=inB_iff.1 hin;have hn:1<=n/\n<=4:=zO;have h16:=JY hn.2;obtain ⟨e0,mk,fl⟩:=SH hn;rw [e0] at hc;obtain ⟨i1,i2,i3,i4⟩:=yY gs ⟨n,0,[],mw n⟩ M hc rfl (by rw [fx]) hn fl mk;have hid:∀ b,b < 2 ^ n->jj (da b ⟨n,0,[],mw n⟩)=b:=by
  intro b hb;have:=List.all_eq_true.1 (JX hn) b (List.mem_range.2 hb);exact of_decide_eq_true this
 refine ⟨hn,i1,i2,i3,fun b hb=>?_,fun b c hb hc' he=>?_⟩
 ·obtain ⟨j1,⟨k,j2,j3⟩,j4⟩:=i4 b zO;refine ⟨?_,j4⟩;rw [hid b hb] at j3;rw [j3];have e:Ob b ⟨n,0,[],mw n⟩=0:=rfl;rw [e] at j2;have:fw (Ob b M).toNat=fw k:=by
   rw [j2,show ((0+(k:Int)) % 8).toNat=k % 8 by omega];unfold fw;rw [Nat.mod_mod]
  rw [this]
 ·have vinj:∀ m:Nat,∀ xs ys:List Nat,xs.length=m->ys.length=m->(∀ x ∈ xs,x<=1)->(∀ x ∈ ys,x<=1)->jj xs=jj ys->xs=ys:=by
   intro m
   induction m with
   |zero=>intro xs ys h1 h2 _ _ _;rw [List.eq_nil_of_length_eq_zero h1,List.eq_nil_of_length_eq_zero h2]
   |succ m ih =>
    intro xs ys h1 h2 b1 b2 hv
    match xs,ys,h1,h2 with
    |x :: r,y :: s,h1,h2 =>
     have c1:=b1 x zI;have c2:=b2 y zI;have hv2:x+2 * jj r=y+2 * jj s:=hv;have:=ih r s (by simpa using h1) (by simpa using h2) (fun z hz=>b1 z (by simp [hz])) (fun z hz=>b2 z (by simp [hz])) zO;rw [this,show x=y by omega]
  have hmv:∀ (l:List Gt) (xs ys:List Nat),(∀ g ∈ l,bF n g=true/\mono g=true)->xs.length=n->ys.length=n->(∀ x ∈ xs,x<=1)->(∀ x ∈ ys,x<=1)->VW l xs=VW l ys->xs=ys:=by
   intro l
   induction l with
   |nil=>intro xs ys _ _ _ _ _ h;exact h
   |cons g r ih =>
    intro xs ys hg h1 h2 b1 b2 hh;obtain ⟨g1,g2⟩:=hg g zI;obtain ⟨_,_,m3,m4⟩:=DP g1 g2 h1 b1;obtain ⟨_,_,k3,k4⟩:=DP g1 g2 h2 b2;have:=ih (uE g xs) (uE g ys) (fun x hx=>hg x (by simp [hx])) (by rw [qS,h1]) (by rw [qS,h2]) m4 k4 hh;rw [<- m3,<- k3,this]
  obtain ⟨j1,_,_⟩:=i4 b zO;obtain ⟨k1,_,_⟩:=i4 c zO;have e1:=vinj n (da b M) (da c M) (by rw [eC,i3]) (by rw [eC,i3]) (i8 _ _) (i8 _ _) he;rw [j1,k1] at e1;have e2:=hmv gs _ _ i1 (by rw [eC];exact fx n) (by rw [eC];exact fx n) (i8 _ _) (i8 _ _) e1;rw [<- hid b hb,<- hid c hc',e2]
theorem Oc {g:Gt} (h:mono g=true):hc g=0:=by
 unfold hc;split
 ·rename_i h4;unfold mono at h;rw [h4] at h;exact absurd h zD
 ·rfl
theorem sM:∀ {gs:List Gt},(∀ g ∈ gs,mono g=true)->cP gs=0
 |[],_=>rfl
 |g :: r,h=>by
  show hc g+cP r=0;rw [Oc (h g zI),sM (fun x hx=>h x (by simp [hx]))]
end Go.Proofs.YtmenmibfkojnoaaGreat
