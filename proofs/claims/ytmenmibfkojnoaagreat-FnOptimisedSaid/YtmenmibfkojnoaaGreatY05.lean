/- Contracts of the drawing helpers: big, l. -/
import Derived.Test.YtmenmibfkojnoaaGreatY03
import Derived.Test.YtmenmibfkojnoaaGreatY04
import Derived.Laws.BitsAllLaws
import Derived.Laws.BitsLemmas
import Derived.Deep.RegionLaw
import Derived.BigGuardPart
import Derived.Deep.RegionWith
set_option maxHeartbeats 16000000
set_option maxRecDepth 100000
namespace Go.Proofs.YtmenmibfkojnoaaGreat
open Go.RowKit
def RdB (w:World) (A:Option Addr) (n:Nat) (zs:List Int):Prop:=zs.length=n/\Rd w 1 A n (zs.map (Value.int .u8))
theorem RdB.at_ {w:World} {n:Nat} {A:Option Addr} {zs:List Int} (h:RdB w A n zs) {k:Nat} (hk:k < n):∃ (b off:Nat) (x:Int),A=some ⟨b,off,none⟩/\b < w.heap.size/\x ∈ zs/\w.cell? ⟨b,off+k,none⟩=some (.int .u8 x):=by
 obtain ⟨hl,hr⟩:=h;obtain ⟨b,off,e,hb,hc⟩:=hr.2 zO;refine ⟨b,off,zs[k]'zO,e,hb,zI,hc _ _ ?_⟩;simp only [List.getElem?_map];rw [List.getElem?_eq_getElem zO];rfl
theorem Rd.setCell0 {w:World} {sz n:Nat} {A:Option Addr} {xs:List Value} (h:Rd w sz A n xs) {p:Addr} (u:Value) (hp:0 < n->∀ b off,A=some ⟨b,off,none⟩->b ≠ p.block):Rd (w.setCell p u) sz A n xs:=by
 rcases Nat.eq_zero_or_pos n with h0 | h0
 ·subst h0;have:xs=[]:=List.eq_nil_of_length_eq_zero (by simpa using h.1);subst this;exact Rd.zero _ _ _
 ·exact h.setCell u (hp h0)
theorem CV (a:Int) (m:Nat) (hm:m < 9223372036854775808):0<=bits .and .i64 a (m:Int)/\bits .and .i64 a (m:Int)<=m:=by
 have h:bits .and .i64 a (m:Int)=IntKind.i64.wrap (((BitVec.ofInt 64 a &&& BitVec.ofInt 64 (m:Int)).toNat:Nat):Int):=rfl;have h2:(BitVec.ofInt 64 (m:Int)).toNat=m:=by
  rw [BitVec.ofInt_natCast,BitVec.toNat_ofNat];exact Nat.mod_eq_of_lt zO
 have h3:(BitVec.ofInt 64 a &&& BitVec.ofInt 64 (m:Int)).toNat<=m:=by
  rw [BitVec.toNat_and,h2];exact Nat.and_le_right
 rw [h,IntKind.wrap_i64];omega
def Cur (w:World) (g:Nat):Prop :=
 ∃ (A:Option Addr) (n c:Nat) (i h:Int) (zs:List Int),Bx w g 122 #[.slice A n c,i,h]/\RdB w A n zs/\(∀ z ∈ zs,0<=z/\z<=255)/\0<=i/\i<=n/\n<=1048576/\(0 < n->∀ b off,A=some ⟨b,off,none⟩->b < g)
theorem Cur.below {w w':World} {g:Nat} (h:Cur w g) (hb:Below w w w'):Cur w' g:=by
 obtain ⟨A,n,c,i,hh,zs,h1,h2,h3⟩:=h;exact ⟨A,n,c,i,hh,zs,h1.below hb,⟨h2.1,h2.2.below hb⟩,h3⟩
theorem Cur.lt {w:World} {g:Nat} (h:Cur w g):g < w.heap.size:=by
 obtain ⟨A,n,c,i,hh,zs,h1,_⟩:=h;exact h1.lt
theorem Cur.row {w w':World} {g:Nat} {row:Option Nat} (h:Cur w g) (hg:w.grownBy w' row) (hr:∀ k,row=some k->g < k):Cur w' g:=by
 obtain ⟨A,n,c,i,hh,zs,h1,h2,h3,h4,h5,h6,h7⟩:=h;refine ⟨A,n,c,i,hh,zs,h1.grown hg (fun e=>by have:=hr g e.symm;omega),⟨h2.1,?_⟩,h3,h4,h5,h6,h7⟩;rcases Nat.eq_zero_or_pos n with h0 | h0
 ·subst h0;have:zs=[]:=List.eq_nil_of_length_eq_zero h2.1;subst this;exact Rd.zero _ _ _
 ·exact h2.2.grown hg fun b off e he=>by
   have a:=h7 h0 b off e;have b:=hr _ he.symm;omega
theorem Cur.setCell {w:World} {g:Nat} (h:Cur w g) {p:Addr} (hp:g < p.block) (u:Value):Cur (w.setCell p u) g :=
 h.row (row:=some p.block) ⟨rfl,rfl,rfl,by simp [World.setCell],fun k _ hk=>Below.heap_setCell w _ u k (fun e=>hk (by rw [e]))⟩ (fun k e=>by injection e with e;omega)
theorem Cur.bx {w:World} {g:Nat} (h:Cur w g):∃ cs,Bx w g 122 cs:=by
 obtain ⟨A,n,c,i,hh,zs,h1,_⟩:=h;exact ⟨_,h1⟩
theorem Cur.grown {w w':World} {g:Nat} {row:Option Nat} (h:Cur w g) (hg:w.grownBy w' row) (hr:∀ k,row=some k->w.heap.size<=k):Cur w' g :=
 h.below (iQ hg zR hr)
def Hd (p:Int->Prop) (g:Nat) (w:World) (e:Ending) (w':World):Prop :=
 ∃ x:Int,e=.returned (.int .i64 x)/\p x/\Cur w' g/\w.grownBy w' (some g)
theorem PI (A:Option Addr) (n cap:Nat) (w:World) (hn:n<=9223372036854775807) :
  Calls Tryz.prog 17 #[.slice A n cap] w fun e w'=>e=.returned (.bool (decide (1048576 < n)))/\w=w':=by
 by_cases h:1048576 < n
 ·go_enter Tryz.func17,Tryz.ntmps17;go_wp2;go_ret;exact ⟨aw zJ,rfl⟩
 ·go_enter Tryz.func17,Tryz.ntmps17;go_wp2;go_ret;exact ⟨aw zJ,rfl⟩
theorem lB (g:Nat) (w:World) (h:Cur w g) :
  Calls Tryz.prog 119 #[.pointer (some ⟨g,0,none⟩)] w (Hd (fun x=>0<=x/\x<=255) g w):=by
 obtain ⟨A,n,c,i,h,zs,hbx,hr,hz,h0,h1,h2,hA⟩:=h;obtain ⟨k,rfl⟩:=Int.eq_ofNat_of_zero_le h0;have HB:=zH hbx;have HR:=zH hr;have HZ:=zH hz;have HA:=zH (show 0 < n->∀ b off,A=some ⟨b,off,none⟩->b ≠ g from fun h0 b off e=>Nat.ne_of_lt (hA h0 b off e));have HA':=zH hA;obtain ⟨q0,q1,q2,f0,f1,f2⟩:w.cell? ⟨g,0,none⟩=some (.slice A n c)/\w.cell? ⟨g,1,none⟩=some (.int .i64 (k:Int))/\w.cell? ⟨g,2,none⟩=some (.int .i64 h)/\w.frozen? ⟨g,0,none⟩=false/\w.frozen? ⟨g,1,none⟩=false/\w.frozen? ⟨g,2,none⟩=false :=
  ⟨hbx.cell 0,hbx.cell 1,hbx.cell 2,hbx.free 0,hbx.free 1,hbx.free 2⟩
 clear hbx hr hz hA;go_enter Tryz.func119,Tryz.ntmps119;go_wp2;generalize wrap64 (wrap64 (h * 6364136223846793005)+1442695040888963407)=h';obtain ⟨W,hW⟩:∃ W,W=w.setCell ⟨g,2,none⟩ (.int .i64 h'):=⟨_,rfl⟩;rw [<- hW];have B1:Bx W g 122 #[.slice A n c,k,h']:=by rw [hW];exact HB.set_ 2 _
 have R1:RdB W A n zs:=by rw [hW];exact ⟨HR.out.1,HR.out.2.setCell0 _ HA.out⟩
 have G1:w.grownBy W (some g):=by
  rw [hW];exact ⟨rfl,rfl,rfl,by simp [World.setCell],fun k hk hne=>Below.heap_setCell w _ _ k (fun e=>hne (by rw [e]))⟩
 clear hW q0 q1 q2 f0 f1 f2;obtain ⟨q0,q1,q2,f0,f1,f2⟩:W.cell? ⟨g,0,none⟩=some (.slice A n c)/\W.cell? ⟨g,1,none⟩=some (.int .i64 (k:Int))/\W.cell? ⟨g,2,none⟩=some (.int .i64 h')/\W.frozen? ⟨g,0,none⟩=false/\W.frozen? ⟨g,1,none⟩=false/\W.frozen? ⟨g,2,none⟩=false :=
  ⟨B1.cell 0,B1.cell 1,B1.cell 2,B1.free 0,B1.free 1,B1.free 2⟩
 have HB1:=zH B1;have HR1:=zH R1;clear B1 R1;go_quiet (fail)
 go_wp2;have hx:=CV (bits BinOp.xor IntKind.i64 (h' / 8589934592) (h' / 35184372088832)) 255 zO;generalize bits BinOp.and IntKind.i64 (bits BinOp.xor IntKind.i64 (h' / 8589934592) (h' / 35184372088832)) 255=x at hx ⊢;by_cases hlt:k < n
 ·obtain ⟨b,off,z,rfl,hb,hz,c0⟩:=HR1.at_ hlt;have hzb:=HZ.out z hz;have hne:b ≠ g:=HA.out zO b off rfl;have hi1:(k:Int) < (n:Int):=zO;clear hz;go_quiet (fail)
  go_wp2;go_quiet (fail)
  go_wp2;go_ret;have hB2:∀ m,Bx ((W.drewN m).setCell ⟨g,1,none⟩ (.int .i64 ((k:Int)+1))) g 122 #[.slice (some ⟨b,off,none⟩) n c,.int .i64 ((k:Int)+1),h']:=fun m=>Bx.set_ (w:=W.drewN m) HB1.out 1 _
  refine ⟨_,rfl,CV (x+z) 255 zO,⟨_,n,c,(k:Int)+1,h',zs,hB2 _,⟨HR1.out.1,Rd.setCell0 (w:=W.drewN _) HR1.out.2 _ HA.out⟩,HZ.out,zO,zO,zO,HA'.out⟩,?_⟩;exact ⟨G1.os,G1.tape,G1.output,by simpa [World.setCell] using G1.size,fun j hj hne=>(Below.heap_setCell (W.drewN _) ⟨g,1,none⟩ _ j (fun e=>hne (by rw [e]))).trans (G1.block j hj hne)⟩
 ·have hi1:decide ((k:Int) < (n:Int))=false:=zJ;go_quiet (fail)
  go_wp2;go_ret;exact ⟨x,rfl,hx,⟨A,n,c,k,h',zs,HB1,HR1,HZ,zO,zO,zO,HA'.out⟩,⟨G1.os,G1.tape,G1.output,G1.size,G1.block⟩⟩
theorem He (x n:Int) (h1:1<=n):0<=x % n/\x % n < n:=⟨Int.emod_nonneg _ zO,Int.emod_lt_of_pos _ zO⟩
theorem dz (g:Nat) (n:Int) (w:World) (h:Cur w g) (hn:n<=1000000) :
  Calls Tryz.prog 74 #[.pointer (some ⟨g,0,none⟩),n] w (Hd (fun x=>(1<=n->0<=x/\x < n)/\(n<=0->x=0)) g w):=by
 have H:=zH h;clear h;by_cases h0:n<=0
 ·go_enter Tryz.func74,Tryz.ntmps74;go_wp2_with fail;go_ret;exact ⟨0,rfl,⟨fun h=>by omega,fun _=>rfl⟩,H.out,World.grownBy.refl _ _⟩
 ·have hn1:1<=n:=zO;by_cases h256:n<=256
  ·go_enter Tryz.func74,Tryz.ntmps74;go_wp2_with fail;refine (lB _ _ H).mono ?_;rintro e w1 ⟨x,rfl,⟨hx0,hx1⟩,hc1,g1⟩;go_wp2_with fail;go_ret;exact ⟨x % n,rfl,⟨fun _=>He x n hn1,fun h=>by omega⟩,hc1,g1⟩
  ·go_enter Tryz.func74,Tryz.ntmps74;go_wp2_with fail;refine (lB _ _ H).mono ?_;rintro e w1 ⟨x,rfl,⟨hx0,hx1⟩,hc1,g1⟩;go_wp2_with fail;refine (lB _ _ hc1).mono ?_;rintro e w2 ⟨y,rfl,⟨hy0,hy1⟩,hc2,g2⟩;go_wp2_with fail;refine (lB _ _ hc2).mono ?_;rintro e w3 ⟨z,rfl,⟨hz0,hz1⟩,hc3,g3⟩;go_wp2_with fail;refine (lB _ _ hc3).mono ?_;rintro e w4 ⟨u,rfl,⟨hu0,hu1⟩,hc4,g4⟩;go_wp2_with fail;go_ret;refine ⟨(x * 16777216+y * 65536+z * 256+u) % n,rfl,⟨fun _=>He _ n hn1,fun h=>by omega⟩,hc4,((g1.trans g2).trans g3).trans g4⟩
def Hf (w:World) (e:Ending) (w':World):Prop:=∃ g,e=.returned (.pointer (some ⟨g,0,none⟩))/\Cur w' g/\w.heap.size<=g/\Below w w w'
theorem Mh (A:Option Addr) (n cap:Nat) (zs:List Int) (w:World) (h:RdB w A n zs) (hz:∀ z ∈ zs,0<=z/\z<=255) (hn:n<=1048576) :
  Calls Tryz.prog 71 #[.slice A n cap] w (Hf w):=by
 have H:=zH h;have HZ:=zH hz;clear h hz;go_enter Tryz.func71,Tryz.ntmps71;go_wp2_with fail
 go_loop [3,4] (fun s i=>∃ (k:Nat) (x:Int),k<=n/\i=.int .i64 k/\s=.int .i64 x) (fun _ i=>n - (intOf i).toNat)
 case atStart=>exact ⟨0,_,zO,rfl,rfl⟩
 case round =>
  obtain ⟨k,x,hk,rfl,rfl⟩:=hrel;have fin:∀ y:Int,Hf w (.returned (.pointer (some ⟨w,0,none⟩))) (w.alloc (.cells #[.slice A n cap,(0:Int),y] 122)):=fun y =>
   ⟨_,rfl,⟨A,n,cap,0,y,zs,Bx.new w _ _,⟨H.out.1,H.out.2.alloc _⟩,HZ.out,zO,zO,hn,fun h0 b off e=>by
    obtain ⟨b',off',e',hb,_⟩:=H.out.2.2 h0;rw [e] at e';injection e' with e';injection e' with e' _;omega⟩,zR,(zW).alloc zR _⟩
  have FIN:=zH fin;clear fin;by_cases hlt:k < n
  ·by_cases h4:k < 4000
   ·obtain ⟨b,off,z,rfl,hb,hzm,c0⟩:=H.at_ hlt;have hzb:=HZ.out z hzm;clear hzm;go_wp2_with fail
    go_round
    case rel=>exact ⟨k+1,_,zO,by go_num,rfl⟩
    case measure=>simp [intOf];omega
   ·go_wp2_with fail;go_ret;exact FIN.out x
  ·go_wp2_with fail;go_ret;exact FIN.out x
set_option linter.unusedVariables false
structure Pq where
 x:Nat
 z:Nat
 p:Nat
 deriving DecidableEq
def dt (k:Nat):Nat:=k % 2+k / 2 % 2+k / 4 % 2+k / 8 % 2
def ci (n:Nat) (a:Pq):Bool:=decide (a.x < 2 ^ n) && (decide (a.z < 2 ^ n) && decide (a.p < 4))
def cn (a b:Pq):Pq:=⟨a.x ^^^ b.x,a.z ^^^ b.z,(a.p+b.p+2 * dt (a.z &&& b.x)) % 4⟩
def il (a b:Pq):Bool:=(dt (a.x &&& b.z)+dt (a.z &&& b.x)) % 2 == 0
def kW (a:Pq):Bool:=(a.p+dt (a.x &&& a.z)) % 2 == 0
def xQ (q:Nat):Pq:=⟨2 ^ q,0,0⟩
def zQ (q:Nat):Pq:=⟨0,2 ^ q,0⟩
def dU (g:Gt) (q:Nat):Bool:=g.a == (q:Int) || (aA g.k == 2 && g.b == (q:Int))
def oO (g:Gt) (q:Nat):Pq :=
 if dU g q=false then xQ q
 else if g.k=2 then ⟨2 ^ q,0,2⟩
 else if g.k=3 then ⟨2 ^ q,0,2⟩
 else if g.k=4 then zQ q
 else if g.k=5 then ⟨2 ^ q,2 ^ q,1⟩
 else if g.k=6 then ⟨2 ^ q,2 ^ q,3⟩
 else if g.k=9 then (if (q:Int)=g.a then ⟨2 ^ q ||| 2 ^ g.b.toNat,0,0⟩ else xQ q)
 else if g.k=10 then ⟨2 ^ q,2 ^ (g.a+g.b - q).toNat,0⟩
 else if g.k=11 then xQ (g.a+g.b - q).toNat
 else xQ q
def oW (g:Gt) (q:Nat):Pq :=
 if dU g q=false then zQ q
 else if g.k=1 then ⟨0,2 ^ q,2⟩
 else if g.k=2 then ⟨0,2 ^ q,2⟩
 else if g.k=4 then xQ q
 else if g.k=9 then (if (q:Int)=g.b then ⟨0,2 ^ q ||| 2 ^ g.a.toNat,0⟩ else zQ q)
 else if g.k=11 then zQ (g.a+g.b - q).toNat
 else zQ q
def dV (g:Gt) (a o:Pq) (q:Nat):Pq :=
 let o1:=if aZ a.x q=true then cn o (oO g q) else o
 if aZ a.z q=true then cn o1 (oW g q) else o1
def fT (g:Gt) (a:Pq):List Nat->Pq->Pq
 |[],o=>o
 |q :: r,o=>fT g a r (dV g a o q)
def eP (n:Nat) (g:Gt) (a:Pq):Pq:=fT g a (List.range n) ⟨0,0,a.p⟩
theorem okQn_iff {n:Nat} {a:Pq}:ci n a=true ↔ a.x < 2 ^ n/\a.z < 2 ^ n/\a.p < 4:=by
 unfold ci;simp only [Bool.and_eq_true,decide_eq_true_eq]
def ed (n:Nat) (r:List Pq):Prop:=r.length=2 * n/\(∀ a ∈ r,ci n a=true/\kW a=true)/\∀ i k a b,i < k->r[i]? = some a->r[k]? = some b->il a b = !(decide (k=i+n))
def di (n:Nat) (g:Gt) (r:List Pq):List Pq:=r.map (eP n g)
def ch (n:Nat):List Pq:=((List.range n).map xQ)++(List.range n).map zQ
def bH (n:Nat):List Gt->List Pq->List Pq
 |[],r=>r
 |g :: l,r=>bH n l (di n g r)
def dj:Nat->Nat->Nat
 |0,_=>0
 |f+1,x=>x % 2+dj f (x / 2)
def jr:List Nat->Nat
 |[]=>0
 |a :: r=>a+256 * jr r
def Az:Nat->Nat->List Nat
 |0,_=>[]
 |f+1,x=>x % 256 :: Az f (x / 256)
theorem vj:∀ (f x:Nat),x < 256 ^ f->jr (Az f x)=x
 |0,x,h=>by simp at h;subst h;rfl
 |f+1,x,h=>by
  rw [Nat.pow_succ] at h;have:=vj f (x / 256) zO;rw [Az,jr,this];omega
theorem oX:∀ (f x:Nat),∀ b ∈ Az f x,b < 256
 |0,_,b,h=>by simp [Az] at h
 |f+1,x,b,h=>by
  rw [Az] at h;rcases List.mem_cons.1 h with h | h
  ·omega
  ·exact oX f _ b h
theorem ry:∀ (k f x:Nat),dj (k+f) x=dj k (x % 2 ^ k)+dj f (x / 2 ^ k)
 |0,f,x=>by simp [dj]
 |k+1,f,x=>by
  have e:k+1+f=(k+f)+1:=zO;rw [e,dj,ry k f (x / 2),dj];have h1:x % 2 ^ (k+1) % 2=x % 2:=by
   rw [Nat.pow_succ,Nat.mul_comm];exact Nat.mod_mul_right_mod x 2 (2 ^ k)
  have h2:x % 2 ^ (k+1) / 2=x / 2 % 2 ^ k:=by
   rw [Nat.pow_succ,Nat.mul_comm];exact Nat.mod_mul_right_div_self x 2 (2 ^ k)
  have h3:x / 2 / 2 ^ k=x / 2 ^ (k+1):=by
   rw [Nat.div_div_eq_div_mul,Nat.pow_succ,Nat.mul_comm]
  rw [h1,h2,h3];omega
theorem EY (f a b:Nat) (ha:a < 256):dj (8+f) (a+256 * b)=dj 8 a+dj f b:=by
 rw [ry];have h1:(a+256 * b) % 2 ^ 8=a:=zO;have h2:(a+256 * b) / 2 ^ 8=b:=zO;rw [h1,h2]
theorem rz (a b c d:Nat) (ha:a < 256) (hc:c < 256):(a+256 * b) &&& (c+256 * d)=(a &&& c)+256 * (b &&& d):=by
 have h1:=Nat.and_mod_two_pow (a:=a+256 * b) (b:=c+256 * d) (n:=8);have h2:=Nat.and_div_two_pow (a:=a+256 * b) (b:=c+256 * d) (n:=8);have e1:(a+256 * b) % 2 ^ 8=a:=zO;have e2:(c+256 * d) % 2 ^ 8=c:=zO;have e3:(a+256 * b) / 2 ^ 8=b:=zO;have e4:(c+256 * d) / 2 ^ 8=d:=zO;rw [e1,e2] at h1;rw [e3,e4] at h2;omega
def Gm (c:Nat):List Nat->Nat
 |[]=>0
 |_ :: r=>c+256 * Gm c r
def s1 (a:Nat):Nat:=(a / 2 &&& 85)+(a &&& 85)
def s2 (a:Nat):Nat:=(a / 4 &&& 51)+(a &&& 51)
def s3 (a:Nat):Nat:=(a / 16+a) &&& 15
theorem Hg:∀ (a:Fin 256) (b:Fin 2),((a.val / 2+128 * b.val) &&& 85)+(a.val &&& 85)=s1 a.val/\s1 a.val < 256:=by decide +kernel
theorem Hh:∀ (a:Fin 256) (b:Fin 4),((a.val / 4+64 * b.val) &&& 51)+(a.val &&& 51)=s2 a.val/\s2 a.val < 256/\s2 a.val % 16<=6/\s2 a.val / 16<=6:=by decide +kernel
theorem QU:∀ (a:Fin 103) (b:Fin 9),((a.val / 16+16 * b.val+a.val) &&& 15)=s3 a.val:=by decide +kernel
theorem CW:∀ a:Fin 256,s3 (s2 (s1 a.val))=dj 8 a.val/\dj 8 a.val<=8:=by decide +kernel
theorem Hi {p:Prop} (h:p:=by
  simp only [jr,Gm,List.map_cons];rw [e1,rz _ _ _ _ zO zO,rz _ _ _ _ ha zO,<- ih,<- h1];omega):p:=h
theorem PK:∀ (l:List Nat),(∀ a ∈ l,a < 256)->(jr l / 2 &&& Gm 85 l)+(jr l &&& Gm 85 l)=jr (l.map s1)
 |[],_=>rfl
 |a :: r,h=>by
  have ha:=h a zI;have ih:=PK r fun b hb=>h b (by simp [hb])
  obtain ⟨h1,_⟩:=Hg ⟨a,ha⟩ ⟨jr r % 2,zO⟩;simp only at h1;have e1:(a+256 * jr r) / 2=(a / 2+128 * (jr r % 2))+256 * (jr r / 2):=zO;exact Hi
theorem PL:∀ (l:List Nat),(∀ a ∈ l,a < 256)->(jr l / 4 &&& Gm 51 l)+(jr l &&& Gm 51 l)=jr (l.map s2)
 |[],_=>rfl
 |a :: r,h=>by
  have ha:=h a zI;have ih:=PL r fun b hb=>h b (by simp [hb])
  obtain ⟨h1,_⟩:=Hh ⟨a,ha⟩ ⟨jr r % 4,zO⟩;simp only at h1;have e1:(a+256 * jr r) / 4=(a / 4+64 * (jr r % 4))+256 * (jr r / 4):=zO;exact Hi
theorem Uo:∀ (l:List Nat),(∀ a ∈ l,a % 16<=6)->jr l % 16<=6
 |[],_=>by simp [jr]
 |a :: r,h=>by
  have:=h a zI;simp only [jr];omega
theorem PM:∀ (l:List Nat),(∀ a ∈ l,a % 16<=6/\a / 16<=6)->(jr l / 16+jr l &&& Gm 15 l)=jr (l.map s3)
 |[],_=>rfl
 |a :: r,h=>by
  obtain ⟨ha1,ha2⟩:=h a zI;have ih:=PM r fun b hb=>h b (by simp [hb])
  have hr:=Uo r fun b hb=>(h b (by simp [hb])).1
  have h1:=QU ⟨a,zO⟩ ⟨jr r % 16,zO⟩;simp only at h1;have e1:(a+256 * jr r) / 16+(a+256 * jr r)=(a / 16+16 * (jr r % 16)+a)+256 * (jr r / 16+jr r):=zO;simp only [jr,Gm,List.map_cons];rw [e1,rz _ _ _ _ zO zO,<- ih,<- h1]
theorem vk:∀ f x:Nat,(Az f x).length=f
 |0,_=>rfl
 |f+1,x=>by rw [Az,List.length_cons,vk f]
theorem rA:∀ (l:List Nat),(∀ a ∈ l,a < 256)->dj (8 * l.length) (jr l)=(l.map (dj 8)).sum
 |[],_=>rfl
 |a :: r,h=>by
  have ih:=rA r fun b hb=>h b (by simp [hb])
  rw [show 8 * (a :: r).length=8+8 * r.length by simp;omega,jr,EY _ _ _ (h a zI),ih];simp
def dO (x:Nat):Nat:=(x / 2 &&& 6148914691236517205)+(x &&& 6148914691236517205)
def dX (y:Nat):Nat:=(y / 4 &&& 3689348814741910323)+(y &&& 3689348814741910323)
def fh (z:Nat):Nat:=(z / 16+z) &&& 1085102592571150095
theorem QV (c0 c1 c2 c3 c4 c5 c6 c7:Nat):jr [c0,c1,c2,c3,c4,c5,c6,c7]=c0+256 * c1+65536 * c2+16777216 * c3+4294967296 * c4+1099511627776 * c5+281474976710656 * c6+72057594037927936 * c7:=by
 simp only [jr];omega
theorem Mi (m c0 c1 c2 c3 c4 c5 c6 c7:Nat) (h0:c0 < m) (h1:c1 < m) (h2:c2 < m) (h3:c3 < m) (h4:c4 < m) (h5:c5 < m) (h6:c6 < m) (h7:c7 < m) (hm:m<=256):jr [c0,c1,c2,c3,c4,c5,c6,c7] < 18446744073709551616:=by
 rw [QV];omega
theorem Up {a:Nat} (h:a % 16<=6/\a / 16<=6):a < 103:=zO
theorem Hj (c0 c1 c2 c3 c4 c5 c6 c7:Nat) (h0:c0 < 103) (h1:c1 < 103) (h2:c2 < 103) (h3:c3 < 103) (h4:c4 < 103) (h5:c5 < 103) (h6:c6 < 103) (h7:c7 < 103):jr [c0,c1,c2,c3,c4,c5,c6,c7] / 16+jr [c0,c1,c2,c3,c4,c5,c6,c7] < 18446744073709551616:=by
 rw [QV];omega
theorem xR (x:Nat):dO x=(x / 2 &&& 6148914691236517205)+(x &&& 6148914691236517205):=by unfold dO;exact Eq.refl _
theorem xS (y:Nat):dX y=(y / 4 &&& 3689348814741910323)+(y &&& 3689348814741910323):=by unfold dX;exact Eq.refl _
theorem xT (z:Nat):fh z=(z / 16+z) &&& 1085102592571150095:=by unfold fh;exact Eq.refl _
theorem CX {l:List Nat} (h:l.length=8):∃ a b c d e f g k,l=[a,b,c,d,e,f,g,k]:=by
 match l,h with
 |[a,b,c,d,e,f,g,k],_=>exact ⟨a,b,c,d,e,f,g,k,rfl⟩
theorem AB {p:Prop} (h:p:=by
  obtain ⟨a,b,c,d,e,f,g,k,rfl⟩:=CX h;simp only [Gm]):p:=h
theorem Mj {l:List Nat} (h:l.length=8):Gm 85 l=6148914691236517205:=by
 exact AB
theorem Ml {l:List Nat} (h:l.length=8):Gm 51 l=3689348814741910323:=by
 exact AB
theorem Mm {l:List Nat} (h:l.length=8):Gm 15 l=1085102592571150095:=by
 exact AB
theorem CY {l:List Nat} (h:l.length=8) (hb:∀ a ∈ l,a < 256):jr l < 18446744073709551616:=by
 obtain ⟨a,b,c,d,e,f,g,k,rfl⟩:=CX h;simp only [List.mem_cons,List.not_mem_nil,or_false,forall_eq_or_imp,forall_eq] at hb;obtain ⟨k0,k1,k2,k3,k4,k5,k6,k7⟩:=hb;exact Mi 256 _ _ _ _ _ _ _ _ k0 k1 k2 k3 k4 k5 k6 k7 (Nat.le_refl _)
theorem Hk {l:List Nat} (h:l.length=8) (hb:∀ a ∈ l,a < 103):jr l / 16+jr l < 18446744073709551616:=by
 obtain ⟨a,b,c,d,e,f,g,k,rfl⟩:=CX h;simp only [List.mem_cons,List.not_mem_nil,or_false,forall_eq_or_imp,forall_eq] at hb;obtain ⟨k0,k1,k2,k3,k4,k5,k6,k7⟩:=hb;exact Hj _ _ _ _ _ _ _ _ k0 k1 k2 k3 k4 k5 k6 k7
def l1 (x:Nat):List Nat:=(Az 8 x).map s1
def l2 (x:Nat):List Nat:=(l1 x).map s2
def l3 (x:Nat):List Nat:=(l2 x).map s3
theorem rB (x:Nat):(Az 8 x).length=8/\(l1 x).length=8/\(l2 x).length=8/\(l3 x).length=8:=by
 have:=vk 8 x;simp [l1,l2,l3,this]
theorem Hl (x:Nat):∀ a ∈ l1 x,a < 256:=by
 intro a ha;obtain ⟨c,hc,rfl⟩:=List.mem_map.1 ha;exact (Hg ⟨c,oX 8 x c hc⟩ 0).2
theorem Hm (x:Nat):∀ a ∈ l2 x,a < 256/\a % 16<=6/\a / 16<=6:=by
 intro a ha;obtain ⟨c,hc,rfl⟩:=List.mem_map.1 ha;exact (Hh ⟨c,Hl x c hc⟩ 0).2
theorem WF (x:Nat) (hx:x < 18446744073709551616):dO x=jr (l1 x):=by
 have e:=PK (Az 8 x) (oX 8 x);rw [Mj (rB x).1,vj 8 x (by simpa using hx)] at e;rw [xR];exact e
theorem Wa (x:Nat) (hx:x < 18446744073709551616):dX (dO x)=jr (l2 x):=by
 have e:=PL (l1 x) (Hl x);rw [Ml (rB x).2.1,<- WF x hx] at e;rw [xS];exact e
theorem WG (x:Nat) (hx:x < 18446744073709551616):fh (dX (dO x))=jr (l3 x):=by
 have e:=PM (l2 x) (fun a ha=>(Hm x a ha).2);rw [Mm (rB x).2.2.1,<- Wa x hx] at e;rw [xT];exact e
theorem QW (x:Nat):l3 x=(Az 8 x).map (dj 8):=by
 unfold l3 l2 l1;rw [List.map_map,List.map_map];exact List.map_congr_left fun b hb=>(CW ⟨b,oX 8 x b hb⟩).1
theorem Hn (x:Nat) (hx:x < 18446744073709551616):dj 64 x=((Az 8 x).map (dj 8)).sum:=by
 have hp:=rA (Az 8 x) (oX 8 x);rw [vk,vj 8 x (by simpa using hx)] at hp;exact hp
theorem m8 (x:Nat) (hx:x < 18446744073709551616):∃ p0 p1 p2 p3 p4 p5 p6 p7:Nat,p0<=8/\p1<=8/\p2<=8/\p3<=8/\p4<=8/\p5<=8/\p6<=8/\p7<=8 ∧
  dO x < 18446744073709551616/\dX (dO x) < 18446744073709551616/\dX (dO x) / 16+dX (dO x) < 18446744073709551616 ∧
  fh (dX (dO x))=p0+256 * p1+65536 * p2+16777216 * p3+4294967296 * p4+1099511627776 * p5+281474976710656 * p6+72057594037927936 * p7/\dj 64 x=p0+p1+p2+p3+p4+p5+p6+p7:=by
 obtain ⟨b0,b1,b2,b3,b4,b5,b6,b7,hl⟩:=CX (rB x).1;have q:∀ b ∈ Az 8 x,dj 8 b<=8:=fun b hb'=>(CW ⟨b,oX 8 x b hb'⟩).2
 have c:=WG x hx;have d:=Hn x hx;rw [QW] at c;rw [hl] at q c d;simp only [List.mem_cons,List.not_mem_nil,or_false,forall_eq_or_imp,forall_eq] at q;obtain ⟨d0,d1,d2,d3,d4,d5,d6,d7⟩:=q;refine ⟨dj 8 b0,dj 8 b1,dj 8 b2,dj 8 b3,dj 8 b4,dj 8 b5,dj 8 b6,dj 8 b7,d0,d1,d2,d3,d4,d5,d6,d7,?_,?_,?_,?_,?_⟩
 ·rw [WF x hx];exact CY (rB x).2.1 (Hl x)
 ·rw [Wa x hx];exact CY (rB x).2.2.1 fun a ha=>(Hm x a ha).1
 ·rw [Wa x hx];exact Hk (rB x).2.2.1 fun a ha=>Up (Hm x a ha).2
 ·rw [c];simp only [List.map_cons,List.map_nil];exact QV _ _ _ _ _ _ _ _
 ·rw [d];simp only [List.map_cons,List.map_nil,List.sum_cons,List.sum_nil];generalize dj 8 b0=r0,dj 8 b1=r1,dj 8 b2=r2,dj 8 b3=r3,dj 8 b4=r4,dj 8 b5=r5,dj 8 b6=r6,dj 8 b7=r7;omega
theorem Uq (p0 p1 p2 p3 p4 p5 p6 p7 y:Nat) (h0:p0<=8) (h1:p1<=8) (h2:p2<=8) (h3:p3<=8) (h4:p4<=8) (h5:p5<=8) (h6:p6<=8) (h7:p7<=8) (hy:y=p0+256 * p1+65536 * p2+16777216 * p3+4294967296 * p4+1099511627776 * p5+281474976710656 * p6+72057594037927936 * p7):y+y / 256 < 9000000000000000000/\y+y / 256=(p0+p1)+256 * (p1+p2)+65536 * (p2+p3)+16777216 * (p3+p4)+4294967296 * (p4+p5)+1099511627776 * (p5+p6)+281474976710656 * (p6+p7)+72057594037927936 * p7:=by
 have:y / 256=p1+256 * p2+65536 * p3+16777216 * p4+4294967296 * p5+1099511627776 * p6+281474976710656 * p7:=zO;omega
theorem Ur (q0 q1 q2 q3 q4 q5 q6 q7 y:Nat) (h0:q0<=16) (h1:q1<=16) (h2:q2<=16) (h3:q3<=16) (h4:q4<=16) (h5:q5<=16) (h6:q6<=16) (h7:q7<=16) (hy:y=q0+256 * q1+65536 * q2+16777216 * q3+4294967296 * q4+1099511627776 * q5+281474976710656 * q6+72057594037927936 * q7):y+y / 65536 < 9000000000000000000/\y+y / 65536=(q0+q2)+256 * (q1+q3)+65536 * (q2+q4)+16777216 * (q3+q5)+4294967296 * (q4+q6)+1099511627776 * (q5+q7)+281474976710656 * q6+72057594037927936 * q7:=by
 have:y / 65536=q2+256 * q3+65536 * q4+16777216 * q5+4294967296 * q6+1099511627776 * q7:=zO;omega
theorem Us (q0 q1 q2 q3 q4 q5 q6 q7 y:Nat) (h0:q0<=32) (h1:q1<=32) (h2:q2<=32) (h3:q3<=32) (h4:q4<=32) (h5:q5<=32) (h6:q6<=32) (h7:q7<=32) (hy:y=q0+256 * q1+65536 * q2+16777216 * q3+4294967296 * q4+1099511627776 * q5+281474976710656 * q6+72057594037927936 * q7):y+y / 4294967296 < 9000000000000000000/\(y+y / 4294967296) % 128=q0+q4:=by
 have:y / 4294967296=q4+256 * q5+65536 * q6+16777216 * q7:=zO;omega
theorem E6 (p0 p1 p2 p3 p4 p5 p6 p7:Nat) (h0:p0<=8) (h1:p1<=8) (h2:p2<=8) (h3:p3<=8) (h4:p4<=8) (h5:p5<=8) (h6:p6<=8) (h7:p7<=8) (y a b c:Nat)
  (hy:y=p0+256 * p1+65536 * p2+16777216 * p3+4294967296 * p4+1099511627776 * p5+281474976710656 * p6+72057594037927936 * p7)
  (ha:a=y+y / 256) (hb:b=a+a / 65536) (hc:c=b+b / 4294967296):a < 9223372036854775808/\b < 9223372036854775808/\c < 9223372036854775808/\c % 128=p0+p1+p2+p3+p4+p5+p6+p7:=by
 obtain ⟨f1,e1⟩:=Uq p0 p1 p2 p3 p4 p5 p6 p7 y h0 h1 h2 h3 h4 h5 h6 h7 hy;rw [<- ha] at e1 f1;clear ha hy;obtain ⟨f2,e2⟩:=Ur _ _ _ _ _ _ _ _ a zO zO zO zO zO zO zO zO e1;rw [<- hb] at e2 f2;clear hb e1;obtain ⟨f3,e3⟩:=Us _ _ _ _ _ _ _ _ b zO zO zO zO zO zO zO zO e2;rw [<- hc] at e3 f3;clear hc e2;exact ⟨zO,zO,zO,zO⟩
theorem Ho (f i x:Nat):dj (f+1) (x / 2 ^ i)=x / 2 ^ i % 2+dj f (x / 2 ^ (i+1)):=by
 rw [dj,Nat.div_div_eq_div_mul,Nat.pow_succ]
def gT (x:Int):Int:=(dj 64 (x % 18446744073709551616).toNat:Nat)
theorem lC (n:Nat) (h:n < 18446744073709551616):IntKind.u64.wrap (n:Int)=n:=by
 have:IntKind.u64.wrap (n:Int)=(n:Int) % 18446744073709551616:=zF;rw [this];omega
theorem nJ (a b:Nat) (ha:a < 18446744073709551616) (hb:b < 18446744073709551616):bits .and .u64 (a:Int) (b:Int)=((a &&& b:Nat):Int):=by
 have h:bits .and .u64 (a:Int) (b:Int)=IntKind.u64.wrap (((BitVec.ofInt 64 (a:Int) &&& BitVec.ofInt 64 (b:Int)).toNat:Nat):Int):=rfl;have h2:(BitVec.ofInt 64 (a:Int) &&& BitVec.ofInt 64 (b:Int)).toNat=a &&& b:=by
  rw [BitVec.toNat_and,BitVec.ofInt_natCast,BitVec.ofInt_natCast,BitVec.toNat_ofNat,BitVec.toNat_ofNat,Nat.mod_eq_of_lt ha,Nat.mod_eq_of_lt hb]
 rw [h,h2,lC];exact Nat.lt_of_le_of_lt Nat.and_le_left ha
theorem Mn (n:Nat):bits .and .i64 (n:Int) 127=((n % 128:Nat):Int):=by
 have h:bits .and .i64 (n:Int) 127=IntKind.i64.wrap (((BitVec.ofInt 64 (n:Int) &&& BitVec.ofInt 64 (127:Int)).toNat:Nat):Int):=rfl;have h2:(BitVec.ofInt 64 (n:Int) &&& BitVec.ofInt 64 (127:Int)).toNat=n % 128:=by
  have h3:(BitVec.ofInt 64 (127:Int)).toNat=127:=zD;rw [BitVec.toNat_and,h3,BitVec.ofInt_natCast,BitVec.toNat_ofNat];have:=Nat.and_two_pow_sub_one_eq_mod (n % 2 ^ 64) 7;rw [show (2:Nat) ^ 7 - 1=127 by decide] at this;rw [this];omega
 rw [h,h2,IntKind.wrap_i64];omega
theorem Mo (a b:Nat):(a:Int) / (b:Int)=((a / b:Nat):Int):=(Int.natCast_ediv a b).symm
theorem Wb (x:Nat) (hx:x < 18446744073709551616):IntKind.u64.wrap (bits .and .u64 ((x:Int) / 2) 6148914691236517205+bits .and .u64 (x:Int) 6148914691236517205)=(dO x:Nat):=by
 obtain ⟨p0,p1,p2,p3,p4,p5,p6,p7,_,_,_,_,_,_,_,_,hA,_⟩:=m8 x hx;have e1:=nJ (x / 2) 6148914691236517205 zO zO;have e2:=nJ x 6148914691236517205 hx zO;rw [show ((6148914691236517205:Nat):Int)=6148914691236517205 from rfl] at e1 e2;rw [show (x:Int) / 2=((x / 2:Nat):Int) from Mo x 2,e1,e2,<- Int.natCast_add,<- xR,lC _ hA]
theorem Wc (y:Nat) (hy:y < 18446744073709551616) (hB:dX y < 18446744073709551616):IntKind.u64.wrap (bits .and .u64 ((y:Int) / 4) 3689348814741910323+bits .and .u64 (y:Int) 3689348814741910323)=(dX y:Nat):=by
 have e1:=nJ (y / 4) 3689348814741910323 zO zO;have e2:=nJ y 3689348814741910323 hy zO;rw [show ((3689348814741910323:Nat):Int)=3689348814741910323 from rfl] at e1 e2;rw [show (y:Int) / 4=((y / 4:Nat):Int) from Mo y 4,e1,e2,<- Int.natCast_add,<- xS,lC _ hB]
theorem Wd (z:Nat) (hz:z / 16+z < 18446744073709551616):bits .and .u64 (IntKind.u64.wrap ((z:Int) / 16+(z:Int))) 1085102592571150095=(fh z:Nat):=by
 have e1:=nJ (z / 16+z) 1085102592571150095 hz zO;rw [show ((1085102592571150095:Nat):Int)=1085102592571150095 from rfl] at e1;rw [show (z:Int) / 16=((z / 16:Nat):Int) from Mo z 16,<- Int.natCast_add,lC _ hz,e1,<- xT]
theorem QX (z d:Nat) (h:z+z / d < 18446744073709551616):IntKind.u64.wrap ((z:Int)+(z:Int) / (d:Int))=((z+z / d:Nat):Int):=by
 rw [Mo,<- Int.natCast_add,lC _ h]
theorem Mp (x:Nat) (hx:x < 18446744073709551616) (c a b e:Nat) (hc:c=fh (dX (dO x))) (ha:a=c+c / 256) (hb:b=a+a / 65536) (he:e=b+b / 4294967296) :
  a < 9223372036854775808/\b < 9223372036854775808/\e < 9223372036854775808/\e % 128=dj 64 x:=by
 obtain ⟨p0,p1,p2,p3,p4,p5,p6,p7,h0,h1,h2,h3,h4,h5,h6,h7,hA,hB,hS,hC,hP⟩:=m8 x hx;rw [hP];exact E6 p0 p1 p2 p3 p4 p5 p6 p7 h0 h1 h2 h3 h4 h5 h6 h7 c a b e (by rw [hc,hC]) ha hb he
theorem Hp (x:Nat) (w:World) (hx:x < 18446744073709551616):Calls Tryz.prog 218 #[.int .u64 x] w fun e w'=>e=.returned (.int .i64 (dj 64 x:Nat))/\w=w':=by
 have HX:=zH hx;clear hx;go_enter Tryz.func218,Tryz.ntmps218;go_wp2_with fail;go_ret;refine ⟨cR ?_,rfl⟩;have hx:=HX.out;obtain ⟨p0,p1,p2,p3,p4,p5,p6,p7,_,_,_,_,_,_,_,_,hA,hB,hS,_,_⟩:=m8 x hx;obtain ⟨k1,k2,k3,k4⟩:=Mp x hx _ _ _ _ rfl rfl rfl rfl;have hC:fh (dX (dO x)) < 18446744073709551616:=zO;have t1:=QX (fh (dX (dO x))) 256 zO;have t2:=QX (fh (dX (dO x))+fh (dX (dO x)) / 256) 65536 zO;have t3:=QX (fh (dX (dO x))+fh (dX (dO x)) / 256+(fh (dX (dO x))+fh (dX (dO x)) / 256) / 65536) 4294967296 zO;rw [show ((256:Nat):Int)=256 from rfl] at t1;rw [show ((65536:Nat):Int)=65536 from rfl] at t2;rw [show ((4294967296:Nat):Int)=4294967296 from rfl] at t3;rw [Wb x hx,Wc _ hA hB,Wd _ hS,t1,t2,t3]
 generalize fh (dX (dO x))+fh (dX (dO x)) / 256+(fh (dX (dO x))+fh (dX (dO x)) / 256) / 65536+(fh (dX (dO x))+fh (dX (dO x)) / 256+(fh (dX (dO x))+fh (dX (dO x)) / 256) / 65536) / 4294967296=e at k3 k4;have hw:wrap64 (e:Int)=e:=by unfold wrap64;omega
 rw [hw,Mn,k4]
theorem QY (x:Nat) (w:World) (hx:x < 18446744073709551616):Calls Tryz.prog 216 #[.int .u64 x] w fun e w'=>e=.returned (.int .i64 (dj 64 x:Nat))/\w=w':=by
 have HX:=zH hx;clear hx;go_enter Tryz.func216,Tryz.ntmps216;go_wp2_with fail;refine (Hp x _ HX).mono ?_;rintro e w' ⟨rfl,rfl⟩;go_wp2_with fail;go_ret;exact ⟨rfl,rfl⟩
theorem AD (x:Int) (w:World):Calls Tryz.prog 212 #[x] w fun e w'=>e=.returned (.int .i64 (gT x))/\w=w':=by
 obtain ⟨n,hn,hw⟩:∃ n:Nat,n < 18446744073709551616/\IntKind.u64.wrap x=n/\dj 64 n=dj 64 (x % 18446744073709551616).toNat:=by
  refine ⟨(x % 18446744073709551616).toNat,zO,?_,rfl⟩;have:IntKind.u64.wrap x=x % 18446744073709551616:=zF;rw [this];omega
 obtain ⟨hw,he⟩:=hw;have HN:=zH hn;have HE:=zH he;clear hn he;go_enter Tryz.func212,Tryz.ntmps212;go_wp2_with fail;refine (QY n _ HN).mono ?_;rintro e w' ⟨rfl,rfl⟩;go_wp2_with fail;go_ret;exact ⟨cR (by rw [HE.out];rfl),rfl⟩
theorem Mq (a:Int):bits .and .i64 a 1=a % 2:=by
 have h:bits .and .i64 a 1=IntKind.i64.wrap (((BitVec.ofInt 64 a &&& BitVec.ofInt 64 (1:Int)).toNat:Nat):Int):=rfl;have h2:(BitVec.ofInt 64 (1:Int)).toNat=1:=zD;have h3:(BitVec.ofInt 64 a &&& BitVec.ofInt 64 (1:Int)).toNat=(BitVec.ofInt 64 a).toNat % 2:=by
  rw [BitVec.toNat_and,h2,Nat.and_one_is_mod]
 have h4:(BitVec.ofInt 64 a).toNat=(a % 18446744073709551616).toNat:=by
  rw [BitVec.toNat_ofInt];rfl
 rw [h,IntKind.wrap_i64,h3,h4];omega
theorem Mr (x:Int) (k f:Nat):((dj (f+1) ((x % 18446744073709551616).toNat / 2 ^ k):Nat):Int)=((x % 18446744073709551616).toNat / 2 ^ k % 2:Nat)+(dj f ((x % 18446744073709551616).toNat / 2 ^ (k+1)):Nat):=by
 rw [Ho];omega
theorem QZ (x:Int) (k:Nat) (hk:k < 64):(x / 2 ^ k) % 2=(((x % 18446744073709551616).toNat / 2 ^ k % 2:Nat):Int):=by
 obtain ⟨r,q,hr,h1⟩:∃ (r:Nat) (q:Int),(x % 18446744073709551616).toNat=r/\x=r+18446744073709551616 * q:=⟨_,x / 18446744073709551616,rfl,zO⟩;rw [hr];have h2:(18446744073709551616:Int)=2 * 2 ^ (63 - k) * 2 ^ k:=by
  rw [Int.mul_assoc,<- Int.pow_add,show 63 - k+k=63 by omega];rfl
 have h3:x=r+(2 * (2 ^ (63 - k) * q)) * 2 ^ k:=by
  rw [h1,h2];congr 1;rw [Int.mul_assoc,Int.mul_assoc,Int.mul_assoc,Int.mul_comm (2 ^ k) q];rw [Int.mul_assoc]
 rw [h3,Int.add_mul_ediv_right _ _ (Int.pow_ne_zero zO),Int.natCast_emod,Int.natCast_ediv,Int.natCast_pow];have h4:((2:Nat):Int)=2:=rfl;rw [h4];omega
def kS (x:Int):Nat->Int
 |0=>0
 |k+1=>kS x k+(x / 2 ^ k) % 2
theorem uc (x:Int):∀ k:Nat,k<=64->kS x k+(dj (64 - k) ((x % 18446744073709551616).toNat / 2 ^ k):Nat)=gT x
 |0,_=>by simp [kS,gT]
 |k+1,h=>by
  have ih:=uc x k zO;obtain ⟨f,hf⟩:∃ f,64 - k=f+1:=⟨63 - k,zO⟩;rw [hf,Mr,<- QZ x k zO] at ih;rw [show 64 - (k+1)=f by omega,kS];omega
theorem xU (x:Int):∀ k:Nat,0<=kS x k/\kS x k<=k
 |0=>by simp [kS]
 |k+1=>by
  have:=xU x k;rw [kS];omega
theorem AE (x:Int) (w:World):Calls Tryz.prog 211 #[x] w fun e w'=>e=.returned (.int .i64 (gT x))/\w=w':=by
 go_enter Tryz.func211,Tryz.ntmps211;go_wp2_with fail
 go_loop [3,4] (fun n i=>∃ k:Nat,k<=64/\i=.int .i64 k/\n=.int .i64 (kS x k)) (fun _ i=>64 - (intOf i).toNat)
 case atStart=>exact ⟨0,zO,rfl,rfl⟩
 case round =>
  obtain ⟨k,hk,rfl,rfl⟩:=hrel;have hb:=xU x k;by_cases hlt:k < 64
  ·have h1:=Mq (x / 2 ^ k);have h2:0<=(x / 2 ^ k) % 2/\(x / 2 ^ k) % 2<=1:=zO;have HC:Hid (kS x (k+1)=kS x k+(x / 2 ^ k) % 2):=zH rfl;generalize (x / 2 ^ k) % 2=z at h1 h2 HC;go_wp2_with fail
   go_round
   case rel=>exact ⟨k+1,zO,by go_num,by rw [HC.out]⟩
   case measure=>simp [intOf];omega
  ·obtain rfl:k=64:=zO;have HC:Hid (kS x 64=gT x):=zH (by have:=uc x 64 zO;simpa [dj] using this);go_wp2_with fail;go_ret;exact ⟨cR HC,rfl⟩
set_option linter.unusedVariables false
def Ut:Bool:=(List.range 16).all fun a=>(List.range 16).all fun b=>decide (bits .and .i64 (a:Int) (b:Int)=((a &&& b:Nat):Int)) && (decide (bits .xor .i64 (a:Int) (b:Int)=((a ^^^ b:Nat):Int)) && (decide (bits .or .i64 (a:Int) (b:Int)=((a ||| b:Nat):Int)) && decide (a &&& b < 16)))
theorem Ms:Ut=true:=by decide +kernel
theorem gU {a b:Nat} (ha:a < 16) (hb:b < 16):bits .and .i64 (a:Int) (b:Int)=((a &&& b:Nat):Int)/\bits .xor .i64 (a:Int) (b:Int)=((a ^^^ b:Nat):Int)/\bits .or .i64 (a:Int) (b:Int)=((a ||| b:Nat):Int)/\a &&& b < 16:=by
 have:=List.all_eq_true.1 (List.all_eq_true.1 Ms a (List.mem_range.2 ha)) b (List.mem_range.2 hb);simp only [Bool.and_eq_true,decide_eq_true_eq] at this;exact ⟨this.1,this.2.1,this.2.2.1,this.2.2.2⟩
def Uu:Bool:=(List.range 16).all fun k=>decide (gT (k:Int)=((dt k:Nat):Int)) && ((List.range 4).all fun q=>(bits .and .i64 ((k:Int) / 2 ^ q) 1 == 1) == aZ k q)
theorem CZ:Uu=true:=by decide +kernel
theorem lD {k:Nat} (h:k < 16):gT (k:Int)=((dt k:Nat):Int):=by
 have:=List.all_eq_true.1 CZ k (List.mem_range.2 h);simp only [Bool.and_eq_true,decide_eq_true_eq] at this;exact this.1
theorem qp {k q:Nat} (h:k < 16) (hq:q < 4):(bits .and .i64 ((k:Int) / 2 ^ q) 1 == 1)=aZ k q:=by
 have:=List.all_eq_true.1 CZ k (List.mem_range.2 h);simp only [Bool.and_eq_true,decide_eq_true_eq] at this;exact eq_of_beq (List.all_eq_true.1 this.2 q (List.mem_range.2 hq))
theorem js (k:Nat):dt k<=4:=by unfold dt;omega
theorem bI {n:Nat} {a:Pq} (hn:n<=4) (h:ci n a=true):a.x < 16/\a.z < 16/\a.p < 4:=by
 obtain ⟨h1,h2,h3⟩:=okQn_iff.1 h;have:2 ^ n<=2 ^ 4:=Nat.pow_le_pow_right zO hn;exact ⟨zO,zO,h3⟩
def QB (w:World) (g n:Nat) (a:Pq) (wx:World):Prop:=Bx wx g 151 #[n,a.x,a.z,a.p]/\Below w w wx/\w.heap.size<=g
section
variable {w wx w':World} {g n:Nat} {a:Pq}
theorem QB.below (h:QB w g n a wx) (hb:Below wx wx w'):QB w g n a w':=⟨h.1.below hb,aa h.2.1 hb,h.2.2⟩
theorem QB.alloc (h:QB w g n a wx) (o:Obj):QB w g n a (wx.alloc o):=h.below ((zW).alloc zR _)
theorem QB.drew (h:QB w g n a wx):QB w g n a wx.drew:=h.below (zW).drew
end
abbrev S4 (wx:World) (r:Nat) (u0 u1 u2 u3:Value):World:=(((wx.setCell ⟨r,0,none⟩ u0).setCell ⟨r,1,none⟩ u1).setCell ⟨r,2,none⟩ u2).setCell ⟨r,3,none⟩ u3
theorem Bx.far4 {wx:World} {g r t:Nat} {cs:Array Value} (h:Bx wx g t cs) (hr:g ≠ r) (u0 u1 u2 u3:Value):Bx (S4 wx r u0 u1 u2 u3) g t cs:=(((h.far hr u0).far hr u1).far hr u2).far hr u3
theorem Bx.set4 {wx:World} {g t:Nat} {v0 v1 v2 v3:Value} (h:Bx wx g t #[v0,v1,v2,v3]) (u0 u1 u2 u3:Value):Bx (S4 wx g u0 u1 u2 u3) g t #[u0,u1,u2,u3]:=by
 have h0:Bx (wx.setCell ⟨g,0,none⟩ u0) g t #[u0,v1,v2,v3]:=by simpa using h.set_ 0 u0
 have h1:Bx ((wx.setCell ⟨g,0,none⟩ u0).setCell ⟨g,1,none⟩ u1) g t #[u0,u1,v2,v3]:=by simpa using h0.set_ 1 u1
 have h2:Bx (((wx.setCell ⟨g,0,none⟩ u0).setCell ⟨g,1,none⟩ u1).setCell ⟨g,2,none⟩ u2) g t #[u0,u1,u2,v3]:=by simpa using h1.set_ 2 u2
 simpa using h2.set_ 3 u3
theorem cI {w wx:World} {r B:Nat} (h:Below B w wx) (hr:B<=r) (u0 u1 u2 u3:Value):Below B w (S4 wx r u0 u1 u2 u3):=(((h.setCell hr _).setCell hr _).setCell hr _).setCell hr _
theorem QB.set4 {w wx:World} {g n r:Nat} {a:Pq} (h:QB w g n a wx) (hr:g ≠ r) (hw:w.heap.size<=r) (u0 u1 u2 u3:Value):QB w g n a (S4 wx r u0 u1 u2 u3):=⟨h.1.far4 hr _ _ _ _,cI h.2.1 hw _ _ _ _,h.2.2⟩
theorem QB.cells {w wx:World} {g n:Nat} {a:Pq} (h:QB w g n a wx):wx.cell? ⟨g,0,none⟩=some (.int .i64 (n:Nat))/\wx.cell? ⟨g,1,none⟩=some (.int .i64 (a.x:Nat))/\wx.cell? ⟨g,2,none⟩=some (.int .i64 (a.z:Nat))/\wx.cell? ⟨g,3,none⟩=some (.int .i64 (a.p:Nat)):=⟨h.1.cell 0,h.1.cell 1,h.1.cell 2,h.1.cell 3⟩
theorem jV:∀ n:Fin 5,IntKind.i64.wrap (2 ^ min (IntKind.u64.wrap ((n:Nat):Int)).toNat 64)=wrap64 (2 ^ (n:Nat))/\wrap64 (wrap64 (2 ^ (n:Nat)) - 1)=2 ^ (n:Nat) - 1/\IntKind.i64.wrap (IntKind.i64.wrap (2 ^ (n:Nat)) - 1)=2 ^ (n:Nat) - 1:=by decide +kernel
theorem Mt {n:Nat} (hn:n<=4) {k:Nat} (h:k < 2 ^ n):ee (k:Int) 0 (2 ^ n - 1)=true:=by
 have:((2 ^ n:Nat):Int)=2 ^ n:=zI;exact bG zO zO
theorem nK (n:Nat) (a:Pq) (w:World) (hn:1<=n/\n<=4) (h:ci n a=true):Calls Tryz.prog 184 #[.agg #[n,a.x,a.z,a.p]] w fun e w'=>e=.returned (.bool true)/\Below w w w':=by
 obtain ⟨hx,hz,hp⟩:=okQn_iff.1 h;have X0:=zH (Bx.new w 151 #[n,a.x,a.z,a.p]);have S1:=(jV ⟨n,zO⟩).1;have S2:=(jV ⟨n,zO⟩).2.1;have S3:=(jV ⟨n,zO⟩).2.2;have I1:ee (n:Int) 1 4=true:=bG zO zO;have I2:=Mt hn.2 hx;have I3:=Mt hn.2 hz;have I4:ee (a.p:Int) 0 3=true:=bG zO zO;clear h hx hz;obtain ⟨p0,p1,p2,p3,_⟩:=X0.four;go_enter Tryz.func184,Tryz.ntmps184;go_wp2_with fail;refine (el _ _ _ _).mono ?_;rintro e w1 ⟨rfl,rfl⟩;rw [I1];go_wp2_with fail;refine (el _ _ _ _).mono ?_;rintro e w1 ⟨rfl,rfl⟩;rw [I2];go_wp2_with fail;refine (el _ _ _ _).mono ?_;rintro e w1 ⟨rfl,rfl⟩;rw [I3];go_wp2_with fail;refine (el _ _ _ _).mono ?_;rintro e w1 ⟨rfl,rfl⟩;rw [I4];go_wp2_with fail;go_ret;exact ⟨rfl,(zW).alloc zR _⟩
theorem nL (n:Nat) (a:Pq) (w:World) (hn:1<=n/\n<=4) (h:ci n a=true):Calls Tryz.prog 193 #[.agg #[n,a.x,a.z,a.p]] w fun e w'=>e=.returned (.bool true)/\Below w w w':=by
 obtain ⟨hx,hz,hp⟩:=okQn_iff.1 h;have X0:=zH (Bx.new w 151 #[n,a.x,a.z,a.p]);have S1:=(jV ⟨n,zO⟩).1;have S2:=(jV ⟨n,zO⟩).2.1;have S3:=(jV ⟨n,zO⟩).2.2;have I1:ee (n:Int) 1 4=true:=bG zO zO;have I2:=Mt hn.2 hx;have I3:=Mt hn.2 hz;have I4:ee (a.p:Int) 0 3=true:=bG zO zO;clear h hx hz;obtain ⟨p0,p1,p2,p3,_⟩:=X0.four;go_enter Tryz.func193,Tryz.ntmps193;go_wp2_with fail;have BB:=zH (show Below w w (w.alloc (.cells #[n,a.x,a.z,a.p] 151)) from (zW).alloc zR _)
 go_region_held3 (fun w'=>w'.cell? ⟨w,0,none⟩=some (.int .i64 (n:Nat))/\w'.cell? ⟨w,1,none⟩=some (.int .i64 (a.x:Nat))/\w'.cell? ⟨w,2,none⟩=some (.int .i64 (a.z:Nat))/\w'.cell? ⟨w,3,none⟩=some (.int .i64 (a.p:Nat)))
  (first | exact ⟨p0,p1,p2,p3⟩ | go_keep)
  (first
   |(go_at_call 70;refine (eK _ _ _ _).mono ?_;rintro e w3 ⟨rfl,rfl⟩;first | rw [I1] | rw [I2] | rw [I3] | rw [I4])
   |fail)
 go_wp2_with fail;go_ret;exact ⟨rfl,bW BB _⟩
set_option linter.unusedVariables false
theorem E8 {x:Int} (h0:0<=x) (h1:x < 1000):IntKind.i64.wrap x=x:=by rw [IntKind.wrap_i64];omega
theorem dY {P:Program} {fn:Func} {R:Ending->World->Prop} {a:Act} {wy:World} {r t:Nat} {v0 v1 v2 v3 u0 u1 u2 u3 v:Value} (hB:Bx wy r t #[v0,v1,v2,v3])
  (hr:∀ wS:World,wS.cell? ⟨r,0,none⟩=some u0->wS.cell? ⟨r,1,none⟩=some u1->wS.cell? ⟨r,2,none⟩=some u2->wS.cell? ⟨r,3,none⟩=some u3->(results fn a.tmps).run P wS=.ok v wS)
  (hd:a.defers=[]) (hR:R (.returned v) (S4 wy r u0 u1 u2 u3)):bodyPost P fn R .ret a (S4 wy r u0 u1 u2 u3):=by
 obtain ⟨z0,z1,z2,z3,_⟩:=(hB.set4 u0 u1 u2 u3).four;exact bodyPost_ret (hr _ z0 z1 z2 z3) hd hR
theorem dQ {P:Program} {fn:Func} {R:Ending->World->Prop} {a:Act} {wy:World} {r t:Nat} {v0 v1 v2 v3 u0 u1 u2 u3 v:Value} (hB:Bx wy r t #[v0,v1,v2,v3])
  (hr:∀ wS:World,wS.cell? ⟨r,0,none⟩=some u0->wS.cell? ⟨r,1,none⟩=some u1->wS.cell? ⟨r,2,none⟩=some u2->wS.cell? ⟨r,3,none⟩=some u3->(results fn a.tmps).run P wS=.ok v wS)
  (hd:a.defers=[]) (hR:R (.returned v) (S4 wy r u0 u1 u2 u3).drew):bodyPost P fn R .ret a (S4 wy r u0 u1 u2 u3).drew:=by
 obtain ⟨z0,z1,z2,z3,_⟩:=(hB.set4 u0 u1 u2 u3).drew.four;exact bodyPost_ret (hr _ z0 z1 z2 z3) hd hR
theorem Uv (u:Nat):(((u:Nat):Int) % 2 == 0)=(u % 2 == 0):=by
 rcases Nat.mod_two_eq_zero_or_one u with h | h
 ·rw [h,show ((u:Int) % 2)=0 by omega];rfl
 ·rw [h,show ((u:Int) % 2)=1 by omega];rfl
theorem We (u v:Nat):(((u:Nat):Int) % 2 == ((v:Nat):Int) % 2)=((u+v) % 2 == 0):=by
 rcases Nat.mod_two_eq_zero_or_one u with h | h<;>rcases Nat.mod_two_eq_zero_or_one v with h2 | h2
 ·rw [show ((u:Int) % 2)=0 by omega,show ((v:Int) % 2)=0 by omega,show (u+v) % 2=0 by omega];rfl
 ·rw [show ((u:Int) % 2)=0 by omega,show ((v:Int) % 2)=1 by omega,show (u+v) % 2=1 by omega];rfl
 ·rw [show ((u:Int) % 2)=1 by omega,show ((v:Int) % 2)=0 by omega,show (u+v) % 2=1 by omega];rfl
 ·rw [show ((u:Int) % 2)=1 by omega,show ((v:Int) % 2)=1 by omega,show (u+v) % 2=0 by omega];rfl
theorem Hq {p:Prop} (h:p:=by
  go_wp2_with fail;go_ret;exact ⟨aw (by rw [<- Int.natCast_add,Uv]),bW X0.out.2.1 _⟩):p:=h
theorem Hr (n:Nat) (a b:Pq) (w:World) (hn:1<=n/\n<=4) (ha:ci n a=true) (hb:ci n b=true):Calls Tryz.prog 183 #[.agg #[n,a.x,a.z,a.p],.agg #[n,b.x,b.z,b.p]] w fun e w'=>e=.returned (.bool (il a b))/\Below w w w':=by
 obtain ⟨a1,a2,a3⟩:=bI hn.2 ha;obtain ⟨b1,b2,b3⟩:=bI hn.2 hb;obtain ⟨m,hm⟩:∃ m,dt (a.x &&& b.z)=m:=⟨_,rfl⟩;obtain ⟨k,hk⟩:∃ m,dt (a.z &&& b.x)=m:=⟨_,rfl⟩;have hm4:m<=4:=by rw [<- hm];exact js _
 have hk4:k<=4:=by rw [<- hk];exact js _
 have e1:gT (bits .and .i64 (a.x:Int) (b.z:Int))=(m:Nat):=by rw [(gU a1 b2).1,lD (gU a1 b2).2.2.2,hm]
 have e2:gT (bits .and .i64 (a.z:Int) (b.x:Int))=(k:Nat):=by rw [(gU a2 b1).1,lD (gU a2 b1).2.2.2,hk]
 have HC:=zH (show il a b=((m+k) % 2 == 0) by unfold il;rw [hm,hk]);have X0:=zH (show QB w w.heap.size n a ((w.alloc (.cells #[n,a.x,a.z,a.p] 151)).alloc (.cells #[n,b.x,b.z,b.p] 151)) from ⟨(Bx.new w _ _).alloc _,((zW).alloc zR _).alloc zI _,zR⟩);have Y0:=zH (show QB w (w.heap.size+1) n b ((w.alloc (.cells #[n,a.x,a.z,a.p] 151)).alloc (.cells #[n,b.x,b.z,b.p] 151)) from ⟨Bx.new' zI,X0.out.2.1,zO⟩);clear ha hb hm hk a1 a2 b1 b2;obtain ⟨p0,p1,p2,p3⟩:=X0.cells;obtain ⟨q0,q1,q2,q3⟩:=Y0.cells;rw [HC.out];go_enter Tryz.func183,Tryz.ntmps183;go_wp2_with fail;go_quiet ((go_at_call 211;exact eJ (AE _ _)))
 exact Hq
theorem Hs (n:Nat) (a b:Pq) (w:World) (hn:1<=n/\n<=4) (ha:ci n a=true) (hb:ci n b=true):Calls Tryz.prog 192 #[.agg #[n,a.x,a.z,a.p],.agg #[n,b.x,b.z,b.p]] w fun e w'=>e=.returned (.bool (il a b))/\Below w w w':=by
 obtain ⟨a1,a2,a3⟩:=bI hn.2 ha;obtain ⟨b1,b2,b3⟩:=bI hn.2 hb;obtain ⟨m,hm⟩:∃ m,dt (a.x &&& b.z)=m:=⟨_,rfl⟩;obtain ⟨k,hk⟩:∃ m,dt (a.z &&& b.x)=m:=⟨_,rfl⟩;have hm4:m<=4:=by rw [<- hm];exact js _
 have hk4:k<=4:=by rw [<- hk];exact js _
 have e1:gT (bits .and .i64 (a.x:Int) (b.z:Int))=(m:Nat):=by rw [(gU a1 b2).1,lD (gU a1 b2).2.2.2,hm]
 have e2:gT (bits .and .i64 (a.z:Int) (b.x:Int))=(k:Nat):=by rw [(gU a2 b1).1,lD (gU a2 b1).2.2.2,hk]
 have HC:=zH (show il a b=((m+k) % 2 == 0) by unfold il;rw [hm,hk]);have X0:=zH (show QB w w.heap.size n a ((w.alloc (.cells #[n,a.x,a.z,a.p] 151)).alloc (.cells #[n,b.x,b.z,b.p] 151)) from ⟨(Bx.new w _ _).alloc _,((zW).alloc zR _).alloc zI _,zR⟩);have Y0:=zH (show QB w (w.heap.size+1) n b ((w.alloc (.cells #[n,a.x,a.z,a.p] 151)).alloc (.cells #[n,b.x,b.z,b.p] 151)) from ⟨Bx.new' zI,X0.out.2.1,zO⟩);clear ha hb hm hk a1 a2 b1 b2;obtain ⟨p0,p1,p2,p3⟩:=X0.cells;obtain ⟨q0,q1,q2,q3⟩:=Y0.cells;rw [HC.out];go_enter Tryz.func192,Tryz.ntmps192;go_wp2_with fail;go_quiet ((go_at_call 212;exact eJ (AD _ _)))
 exact Hq
theorem vl:∀ q:Fin 4,IntKind.i64.wrap (2 ^ min (IntKind.u64.wrap ((q:Nat):Int)).toNat 64)=((2 ^ (q:Nat):Nat):Int)/\wrap64 (2 ^ (q:Nat))=((2 ^ (q:Nat):Nat):Int)/\IntKind.i64.wrap (2 ^ (q:Nat))=((2 ^ (q:Nat):Nat):Int):=by decide +kernel
theorem fU (n q:Nat) (z:Bool) (c:Pq) (w:World) (hq:q < 4) (hc:(if z then zQ q else xQ q)=c):Calls Tryz.prog 148 #[n,q,.bool z] w fun e w'=>e=.returned (.agg #[n,c.x,c.z,c.p])/\Below w w w':=by
 obtain ⟨S1,S2,S3⟩:=vl ⟨q,hq⟩;simp only at S1 S2 S3;obtain ⟨X,hX⟩:∃ X:Nat,2 ^ q=X:=⟨_,rfl⟩;rw [hX] at S1 S2 S3;subst hc;cases z
 ·have hc:(if false then zQ q else xQ q)=⟨X,0,0⟩:=by rw [<- hX];rfl
  rw [hc];clear hc hX;go_enter Tryz.func148,Tryz.ntmps148;go_wp2_with fail;exact bodyPost_ret (v:=.agg #[n,X,(0:Int),(0:Int)]) (by simp [results,Tryz.results148,go_sem]) rfl ⟨rfl,(zW).alloc zR _⟩
 ·have hc:(if true then zQ q else xQ q)=⟨0,X,0⟩:=by rw [<- hX];rfl
  rw [hc];clear hc hX;go_enter Tryz.func148,Tryz.ntmps148;go_wp2_with fail;exact bodyPost_ret (v:=.agg #[n,(0:Int),X,(0:Int)]) (by simp [results,Tryz.results148,go_sem]) rfl ⟨rfl,(zW).alloc zR _⟩
theorem Ht (n:Nat) (a:Pq) (w:World) (hn:1<=n/\n<=4) (ha:ci n a=true):Calls Tryz.prog 182 #[.agg #[n,a.x,a.z,a.p]] w fun e w'=>e=.returned (.bool (kW a))/\Below w w w':=by
 obtain ⟨a1,a2,a3⟩:=bI hn.2 ha;obtain ⟨m,hm⟩:∃ m,dt (a.x &&& a.z)=m:=⟨_,rfl⟩;have hm4:m<=4:=by rw [<- hm];exact js _
 have e1:gT (bits .and .i64 (a.x:Int) (a.z:Int))=(m:Nat):=by rw [(gU a1 a2).1,lD (gU a1 a2).2.2.2,hm]
 have HC:=zH (show kW a=((a.p+m) % 2 == 0) by unfold kW;rw [hm]);have X0:=zH (show QB w w.heap.size n a (w.alloc (.cells #[n,a.x,a.z,a.p] 151)) from ⟨Bx.new w _ _,(zW).alloc zR _,zR⟩);have HA:=zH ha;clear ha hm a1 a2;obtain ⟨p0,p1,p2,p3⟩:=X0.cells;rw [HC.out];go_enter Tryz.func182,Tryz.ntmps182;go_wp2_with fail;have XD:=X0.drew;clear X0
 go_region_held3 (fun w'=>w'.cell? ⟨w,0,none⟩=some (.int .i64 (n:Nat))/\w'.cell? ⟨w,1,none⟩=some (.int .i64 (a.x:Nat))/\w'.cell? ⟨w,2,none⟩=some (.int .i64 (a.z:Nat))/\w'.cell? ⟨w,3,none⟩=some (.int .i64 (a.p:Nat)))
  (first | exact ⟨p0,p1,p2,p3⟩ | exact X1.cells | go_keep)
  (first
   |(go_at_call 184;refine (nK n a _ hn HA.out).mono ?_;rintro e w3 ⟨rfl,b1⟩;have X1:=XD.below b1)
   |(go_at_call 211;refine (AE _ _).mono ?_;rintro e w3 ⟨rfl,rfl⟩)
   |fail)
 go_wp2_with fail;go_ret;exact ⟨aw (by rw [<- Int.natCast_add,E8 zO zO,Int.tmod_eq_emod_of_nonneg zO,Uv]),X1.2.1⟩
theorem Hu (n:Nat) (a:Pq) (w:World) (hn:1<=n/\n<=4) (ha:ci n a=true):Calls Tryz.prog 191 #[.agg #[n,a.x,a.z,a.p]] w fun e w'=>e=.returned (.bool (kW a))/\Below w w w':=by
 obtain ⟨a1,a2,a3⟩:=bI hn.2 ha;obtain ⟨m,hm⟩:∃ m,dt (a.x &&& a.z)=m:=⟨_,rfl⟩;have hm4:m<=4:=by rw [<- hm];exact js _
 have e1:gT (bits .and .i64 (a.x:Int) (a.z:Int))=(m:Nat):=by rw [(gU a1 a2).1,lD (gU a1 a2).2.2.2,hm]
 have HC:=zH (show kW a=((a.p+m) % 2 == 0) by unfold kW;rw [hm]);have X0:=zH (show QB w w.heap.size n a (w.alloc (.cells #[n,a.x,a.z,a.p] 151)) from ⟨Bx.new w _ _,(zW).alloc zR _,zR⟩);have HA:=zH ha;clear ha hm a1 a2;obtain ⟨p0,p1,p2,p3⟩:=X0.cells;rw [HC.out];go_enter Tryz.func191,Tryz.ntmps191;go_wp2_with fail;have XD:=X0.drew;clear X0
 go_region_held3 (fun w'=>w'.cell? ⟨w,0,none⟩=some (.int .i64 (n:Nat))/\w'.cell? ⟨w,1,none⟩=some (.int .i64 (a.x:Nat))/\w'.cell? ⟨w,2,none⟩=some (.int .i64 (a.z:Nat))/\w'.cell? ⟨w,3,none⟩=some (.int .i64 (a.p:Nat)))
  (first | exact ⟨p0,p1,p2,p3⟩ | exact X1.cells | go_keep)
  (first
   |(go_at_call 193;refine (nL n a _ hn HA.out).mono ?_;rintro e w3 ⟨rfl,b1⟩;have X1:=XD.below b1)
   |(go_at_call 212;refine (AD _ _).mono ?_;rintro e w3 ⟨rfl,rfl⟩)
   |fail)
 go_wp2_with fail;go_ret;exact ⟨aw (by rw [Int.tmod_eq_emod_of_nonneg zO,Int.tmod_eq_emod_of_nonneg zO,We]),X1.2.1⟩
def xV (k a b k' a' b':Int):Bool:=(k == k' && (k == 10 || k == 11)) && ((a == a' && b == b') || (a == b' && b == a'))
theorem Mu (k a b c k' a' b' c':Int) (w:World):Calls Tryz.prog 176 #[.agg #[k,a,b,c],.agg #[k',a',b',c']] w fun e w'=>e=.returned (.bool (xV k a b k' a' b'))/\Below w w w':=by
 go_enter Tryz.func176,Tryz.ntmps176;go_wp2
 all_goals go_ret
 all_goals exact ⟨aw (by unfold xV;simp [*]<;>(intros;omega)),(by repeat (first | exact zW | assumption | refine Below.drew ?_ | refine Below.alloc ?_ zS _))⟩
end Go.Proofs.YtmenmibfkojnoaaGreat
namespace Go.Proofs.YtmenmibfkojnoaaGreat
open Go.RowKit
theorem Q0 (k a b c k' a' b' c':Int) (w:World):(Op.equalIn 10000 39 (.agg #[k,a,b,c]) (.agg #[k',a',b',c'])).run Tryz.prog w=.ok (k == k' && (a == a' && (b == b' && c == c'))) w:=by
 have u3:=Tryz.underlying3;have a3:=Tryz.isAgg3;have z3:=Tryz.sizeOf3;have hS:Tryz.prog.underlying 39=some (.struct (Tryz.prog.fieldsOf 39)):=zK;rw [show (10000:Nat)=9999+1 from rfl,run_equalIn_agg w 9999 39 _ _ hS zK];simp only [Program.fieldsOf,Tryz.underlying39]
 go_simp
 by_cases h1:k=k'<;>by_cases h2:a=a'<;>by_cases h3:b=b'<;>by_cases h4:c=c'<;>simp [h1,h2,h3,h4]
def ud (g h:Gt):Bool:=h.k == ji g.k && (h.a == g.a && (h.b == g.b && h.c == g.c))
def m9 (g h:Gt):Bool:=xV g.k g.a g.b h.k h.a h.b
def dZ (g h:Gt):Bool:=decide (0 < aA g.k) && (ud g h || m9 g h)
def rC (g h:Gt):Bool:=(decide (0 < al g.k) && decide (0 < al h.k)) && g.a == h.a
def lE (g h:Gt):Int:=(al g.k+al h.k) % 8
def oY (g h:Gt):Bool:=rC g h && decide ((lu (lE g h)).length<=1)
def bK (g h:Gt):Bool:=dZ g h || oY g h
def aU (g h:Gt):List Gt:=if dZ g h then [] else if oY g h then cG (lE g h) g.a else []
def mO (gs:List Gt) (b:Bool) (w:World) (e:Ending) (w':World):Prop :=
 ∃ (A:Option Addr) (c:Nat),e=.returned (.tuple #[.slice A gs.length c,.bool b])/\w'.ownsRow w 39 4 (.slice A gs.length c) gs.length (af gs)/\Below w w w'
theorem ml {g h:Gt} (hb:dZ g h=true):aU g h=[]/\bK g h=true:=by simp [aU,bK,hb]
theorem ue {g h:Gt} (hb:dZ g h=false) (hr:rC g h=true) (h1:(lu (lE g h)).length<=1):aU g h=cG (lE g h) g.a/\bK g h=true:=by simp [aU,bK,hb,oY,hr,h1]
theorem uf {g h:Gt} (hb:dZ g h=false) (h1:¬ (lu (lE g h)).length<=1):aU g h=[]/\bK g h=false:=by simp [aU,bK,hb,oY,h1]
theorem rD {g h:Gt} (hb:dZ g h=false) (hr:rC g h=false):aU g h=[]/\bK g h=false:=by simp [aU,bK,hb,oY,hr]
theorem Hv {g h:Gt} (h0:aA g.k=0):dZ g h=false:=by simp [dZ,h0]
theorem Q9 {g h:Gt} (h0:aA g.k=0):rC g h=false:=by
 have:al g.k=0:=by
  rcases dA g.k with h | h | h | h | h | h
  all_goals first | exact h.2.2.2.2.2 | (exfalso;obtain ⟨e,_⟩:=h;rw [e] at h0;simp [aA] at h0)
 simp [rC,this]
set_option linter.unusedVariables false
def ks3:List Int:=[1,2,3,4,5,6,7,8,9,10,11,12]
def ns3:List Int:=[0,1,2]
def all3:List Gt:=ks3.flatMap fun k=>ns3.flatMap fun a=>ns3.flatMap fun b=>ns3.map fun c=>⟨k,a,b,c⟩
def Gn (g:Gt):Bool:=fJ g.k g.a g.b g.c 3
def gates3:List Gt:=all3.filter Gn
theorem Hw {ar:Int}:∀ (l seen:List Int),tZ ar 2 seen l=true->∀ x ∈ l,0<=x/\x<=2
 |[],_,_=>by simp
 |y :: r,seen,h=>by
  rw [tZ] at h;by_cases hb:jL ar 2 seen.length seen y=true
  ·rw [if_pos hb] at h;cases h
  ·rw [if_neg hb] at h;intro x hx;rcases List.mem_cons.1 hx with rfl | hx
   ·unfold jL at hb;by_cases hlt:(seen.length:Int) < ar
    ·rw [if_pos hlt] at hb;rcases eO x 0 2 with ⟨_,h1⟩ | ⟨h1,_⟩
     ·exact h1
     ·rw [h1] at hb;simp at hb
    ·rw [if_neg hlt] at hb;have:x=0:=by simpa using hb
     omega
   ·exact Hw r _ h x hx
theorem AF {x:Int} (h:0<=x/\x<=2):x ∈ ns3:=by
 obtain rfl | rfl | rfl:x=0\/x=1\/x=2:=zO
 all_goals decide
theorem Hx {k:Int} (h:0 < aA k):k ∈ ks3:=by
 have hk:1<=k/\k<=12:=by
  rcases bd k with ⟨h1,h2,h3⟩ | ⟨h1,h2,h3⟩ | ⟨h1,h3⟩ | ⟨h1,h3⟩<;>omega
 obtain rfl | rfl | rfl | rfl | rfl | rfl | rfl | rfl | rfl | rfl | rfl | rfl:k=1\/k=2\/k=3\/k=4\/k=5\/k=6\/k=7\/k=8\/k=9\/k=10\/k=11\/k=12:=zO
 all_goals decide
theorem Mv {g:Gt} (h:Gn g=true):g ∈ gates3:=by
 refine List.mem_filter.2 ⟨?_,h⟩;unfold Gn fJ at h;simp only [Bool.and_eq_true,decide_eq_true_eq] at h;have hb:=Hw _ _ h.2.2;obtain ⟨k,a,b,c⟩:=g;simp only [all3,List.mem_flatMap,List.mem_map];exact ⟨k,Hx h.2.1,a,AF (hb a zI),b,AF (hb b zI),c,AF (hb c zI),rfl⟩
end Go.Proofs.YtmenmibfkojnoaaGreat
