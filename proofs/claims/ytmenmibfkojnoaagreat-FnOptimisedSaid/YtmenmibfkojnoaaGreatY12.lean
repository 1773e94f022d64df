/- Plain: a number of D[omega] in its norma. -/
import Derived.Test.YtmenmibfkojnoaaGreatY10
import Derived.Test.YtmenmibfkojnoaaGreatY05
set_option maxHeartbeats 16000000
namespace Go.Proofs.YtmenmibfkojnoaaGreat
set_option linter.unusedVariables false
def rt (z:Zw):Zw:=⟨z.b - z.d,z.a+z.c,z.b+z.d,z.c - z.a⟩
def bV (x y:Zw):Zw:=⟨x.a+y.a,x.b+y.b,x.c+y.c,x.d+y.d⟩
theorem MN (z:Zw):cY z=rt z:=rfl
theorem du {x y:Zw} (a:x.a=y.a) (b:x.b=y.b) (c:x.c=y.c) (d:x.d=y.d):x=y:=by
 cases x;cases y
 simp only at a b c d;subst a b c d;rfl
theorem Dc (z:Zw):rt (rt z)=⟨2 * z.a,2 * z.b,2 * z.c,2 * z.d⟩:=by
 apply du<;>simp only [rt]<;>omega
theorem Ij {x y:Zw} (h:rt x=rt y):x=y:=by
 have h2:=congrArg rt h;rw [Dc,Dc] at h2;injection h2 with a b c d;exact du zO zO zO zO
theorem Rf (x y:Zw):rt (bV x y)=bV (rt x) (rt y):=by
 apply du<;>simp only [rt,bV]<;>omega
def dv (z:Zw):Option Zw:=if jR (rt z) then some ⟨(rt z).a / 2,(rt z).b / 2,(rt z).c / 2,(rt z).d / 2⟩ else none
theorem Uy (y:Zw):dv (rt y)=some y:=by
 unfold dv;rw [Dc];have e:jR ⟨2 * y.a,2 * y.b,2 * y.c,2 * y.d⟩=true:=by
  unfold jR;simp only [Bool.and_eq_true,beq_iff_eq];omega
 rw [if_pos e];congr 1
 apply du<;>simp only<;>omega
theorem Dd {z y:Zw} (h:dv z=some y):z=rt y:=by
 unfold dv at h;split at h
 ·rename_i h1;injection h with h;subst h
  unfold jR at h1;simp only [Bool.and_eq_true,beq_iff_eq,rt] at h1
  apply du<;>simp only [rt]<;>omega
 ·cases h
def fE:Nat->Zw->Zw × Nat
 |0,z=>(z,0)
 |k+1,z=>match dv z with
  |some m=>fE k m
  |none=>(z,k+1)
theorem MO (k:Nat) (y:Zw):fE (k+1) (rt y)=fE k y:=by rw [fE,Uy]
def dl:Nat->Zw->Zw
 |0,z=>z
 |k+1,z=>rt (dl k z)
theorem AH:∀ (k:Nat) (z:Zw),dl k (rt z)=rt (dl k z)
 |0,z=>rfl
 |k+1,z=>by rw [dl,AH k z];rfl
theorem iy:∀ (j k:Nat) (z:Zw),dl (j+k) z=dl j (dl k z)
 |0,k,z=>by rw [Nat.zero_add];rfl
 |j+1,k,z=>by rw [show j+1+k=(j+k)+1 by omega,dl,iy j k z];rfl
theorem qF:∀ (k:Nat) (x y:Zw),dl k (bV x y)=bV (dl k x) (dl k y)
 |0,x,y=>rfl
 |k+1,x,y=>by rw [dl,qF k x y,Rf];rfl
theorem xZ:∀ (j k:Nat) (y:Zw),fE (j+k) (dl j y)=fE k y
 |0,k,y=>by rw [Nat.zero_add];rfl
 |j+1,k,y=>by rw [show j+1+k=(j+k)+1 by omega,dl,MO,xZ j k y]
theorem eB:∀ (k:Nat) (z:Zw),(fE k z).2<=k/\z=dl (k - (fE k z).2) (fE k z).1/\((fE k z).2=0\/dv (fE k z).1=none)
 |0,z=>⟨zR,rfl,.inl rfl⟩
 |k+1,z=>by
  rw [fE];cases h:dv z with
  |none=>exact ⟨zR,by simp only;rw [Nat.sub_self];rfl,.inr h⟩
  |some m =>
   obtain ⟨i1,i2,i3⟩:=eB k m;refine ⟨by simp only;omega,?_,i3⟩;have hz:=Dd h;simp only;rw [show k+1 - (fE k m).2=(k - (fE k m).2)+1 by omega,dl,<- i2];exact hz
def nf (z:Zw) (E:Nat):Dw:=⟨(fE E z).1,((fE E z).2:Nat)⟩
theorem AI (j:Nat) (y:Zw) (E:Nat):nf (dl j y) (j+E)=nf y E:=by unfold nf;rw [xZ]
def gX (M:Int) (z:Zw):Prop:=(-M<=z.a/\z.a<=M)/\(-M<=z.b/\z.b<=M)/\(-M<=z.c/\z.c<=M)/\(-M<=z.d/\z.d<=M)
theorem mP {M:Int} {z:Zw} (h:gX M z) (hM:M<=1073741824):mj z=true:=by
 obtain ⟨h1,h2,h3,h4⟩:=h;unfold mj;rw [jq zO,jq zO,jq zO,jq zO];rfl
theorem PO {M:Int} {z:Zw} (h:gX M (rt z)):gX M z:=by
 unfold gX rt at h;simp only at h;unfold gX;omega
theorem lJ {M:Int} {z:Zw}:∀ k:Nat,gX M (dl k z)->gX M z
 |0,h=>h
 |k+1,h=>lJ k (PO h)
theorem De {z:Zw} (h:mj z=true):nD z=dv z:=by
 unfold nD dv;rw [h,MN];simp only [Bool.true_and]
theorem uh {M:Int} (hM:M<=1073741824):∀ (k:Nat) (z:Zw),gX M z->m7 k z=fE k z
 |0,z,_=>rfl
 |k+1,z,h=>by
  rw [m7,fE,De (mP h hM)];cases hd:dv z with
  |none=>rfl
  |some m=>exact uh hM k m (PO (by rw [<- Dd hd];exact h))
theorem Uz {M:Int} {z:Zw} {E:Nat} (h:gX M z):gX M (nf z E).n:=by
 have:=(eB E z).2.1;refine lJ (E - (fE E z).2) ?_;show gX M (dl (E - (fE E z).2) (fE E z).1);rw [<- this];exact h
theorem rF {M:Int} {z:Zw} {E:Nat} (h:gX M z) (hM:M<=1073741824) (hE:E<=60):lm (nf z E)=true:=by
 have hz:=mP (Uz (E:=E) h) hM;obtain ⟨i1,i2,i3⟩:=eB E z;unfold lm;rw [hz,show ee (nf z E).e 0 60=true from bG (by unfold nf;simp only;omega) (by unfold nf;simp only;omega),De hz];simp only [Bool.true_and,Bool.or_eq_true,beq_iff_eq,Option.isNone_iff_eq_none];rcases i3 with h0 | h0
 ·left
  unfold nf;simp only;omega
 ·exact .inr h0
theorem Df {M:Int} {z:Zw} {E:Nat} (h:gX M z) (hM:M<=1073741824) (hE:E<=60):xO z E=some (nf z E):=by
 have i1:=(eB E z).1;unfold xO;rw [mP h hM,show ee (E:Int) 0 120=true from bG zO zO,Int.toNat_natCast,uh hM E z h];simp only [Bool.and_self,if_true];rw [if_neg zO];rfl
theorem Fc (z:Zw):ai z pO=rt z:=by
 apply du<;>simp only [ai,pO,rt]<;>omega
theorem AJ {M:Int} (hM:M<=1073741824):∀ (k:Nat) (z:Zw),gX M (dl k z)->CO k z=some (dl k z)
 |0,z,_=>rfl
 |k+1,z,h=>by
  have hz:gX M z:=lJ (k+1) h;have h2:gX M (dl k (rt z)):=by rw [AH];exact h
  have hr:gX M (rt z):=lJ k h2;rw [CO];have e:oT z pO=some (rt z):=by
   unfold oT Uc;rw [mP hz hM,Fc,mP hr hM,show mj pO=true by decide];rfl
  rw [e];simp only;rw [AJ hM k (rt z) h2,AH];rfl
theorem Fd (a b:Nat):Ar a b=(max a b:Nat):=by
 unfold Ar;split<;>omega
theorem MQ {M:Int} (hM:M<=1073741824) {z y:Zw} {E:Nat} (hE:E<=60) (hz:gX M z) (hy:gX M y) (hs:gX M (bV z y)):rp (nf z E) (nf y E)=some (nf (bV z y) E):=by
 obtain ⟨i1,i2,i3⟩:=eB E z;obtain ⟨j1,j2,j3⟩:=eB E y;obtain ⟨m,j,hmj⟩:∃ m j,fE E z=(m,j):=⟨_,_,rfl⟩;obtain ⟨n,l,hnl⟩:∃ m j,fE E y=(m,j):=⟨_,_,rfl⟩;have ez:nf z E=⟨m,(j:Nat)⟩:=by unfold nf;rw [hmj]
 have ey:nf y E=⟨n,(l:Nat)⟩:=by unfold nf;rw [hnl]
 have oz:=rF hz hM hE;have oy:=rF hy hM hE;rw [hmj] at i1 i2 i3;rw [hnl] at j1 j2 j3;simp only at i1 i2 i3 j1 j2 j3;rw [ez] at oz ⊢;rw [ey] at oy ⊢;obtain ⟨k,hk⟩:∃ k,max j l=k:=⟨_,rfl⟩;have hz2:z=dl (E - k) (dl (k - j) m):=by rw [<- iy,show E - k+(k - j)=E - j by omega];exact i2
 have hy2:y=dl (E - k) (dl (k - l) n):=by rw [<- iy,show E - k+(k - l)=E - l by omega];exact j2
 have ba:gX M (dl (k - j) m):=lJ (E - k) (by rw [<- hz2];exact hz);have bb:gX M (dl (k - l) n):=lJ (E - k) (by rw [<- hy2];exact hy);have hsum:bV z y=dl (E - k) (bV (dl (k - j) m) (dl (k - l) n)):=by rw [qF,<- hz2,<- hy2]
 have bs:gX M (bV (dl (k - j) m) (dl (k - l) n)):=lJ (E - k) (by rw [<- hsum];exact hs);have he:nf (bV z y) E=nf (bV (dl (k - j) m) (dl (k - l) n)) k:=by
  rw [hsum];have:=AI (E - k) (bV (dl (k - j) m) (dl (k - l) n)) k;rw [show E - k+k=E by omega] at this;exact this
 have hadd:xN (dl (k - j) m) (dl (k - l) n)=some (bV (dl (k - j) m) (dl (k - l) n)):=by
  unfold xN Uc;rw [mP ba hM,mP bb hM];have:=mP bs hM;unfold bV at this;rw [this];rfl
 unfold rp;rw [oz,oy,Fd,hk];simp only [Bool.and_self,if_true];rw [show (((k:Nat):Int) - (j:Int)).toNat=k - j by omega,show (((k:Nat):Int) - (l:Int)).toNat=k - l by omega,AJ hM (k - j) m ba,AJ hM (k - l) n bb];simp only;rw [hadd];simp only;rw [Df bs hM zO,he]
theorem Ik (k:Nat):fw k=⟨1,0,0,0⟩\/fw k=⟨0,1,0,0⟩\/fw k=⟨0,0,1,0⟩\/fw k=⟨0,0,0,1⟩\/fw k=⟨-1,0,0,0⟩\/fw k=⟨0, -1,0,0⟩\/fw k=⟨0,0, -1,0⟩\/fw k=⟨0,0,0, -1⟩:=by
 unfold fw;split<;>simp
def Dg (u:Zw):Prop:=u=⟨1,0,0,0⟩\/u=⟨0,1,0,0⟩\/u=⟨0,0,1,0⟩\/u=⟨0,0,0,1⟩\/u=⟨-1,0,0,0⟩\/u=⟨0, -1,0,0⟩\/u=⟨0,0, -1,0⟩\/u=⟨0,0,0, -1⟩
theorem Fe {u:Zw} (hu:Dg u) (z:Zw):ai (rt z) u=rt (ai z u):=by
 rcases hu with h | h | h | h | h | h | h | h<;>subst h<;>apply du<;>simp only [ai,rt]<;>omega
theorem rG {u:Zw} (hu:Dg u) (x y:Zw):ai (bV x y) u=bV (ai x u) (ai y u):=by
 rcases hu with h | h | h | h | h | h | h | h<;>subst h<;>apply du<;>simp only [ai,bV]<;>omega
theorem ui {u:Zw} (hu:Dg u) {M:Int} {z:Zw} (h:gX M z):gX M (ai z u):=by
 unfold gX at h ⊢;rcases hu with e | e | e | e | e | e | e | e<;>subst e<;>simp only [ai]<;>omega
theorem rH {u:Zw} (hu:Dg u):∀ (k:Nat) (z:Zw),ai (dl k z) u=dl k (ai z u)
 |0,z=>rfl
 |k+1,z=>by rw [dl,Fe hu,rH hu k z];rfl
theorem Rg {u:Zw} (hu:Dg u):mj u=true:=by
 rcases hu with e | e | e | e | e | e | e | e<;>subst e<;>decide
theorem MS {u:Zw} (hu:Dg u) {e:Nat} (he:e<=1):lm ⟨u,(e:Nat)⟩=true:=by
 obtain rfl | rfl:e=0\/e=1:=zO
 all_goals rcases hu with e | e | e | e | e | e | e | e<;>subst e<;>decide
theorem Dh {M:Int} (hM:M<=1073741824) {z u:Zw} {E e:Nat} (hu:Dg u) (he:e<=1) (hE:E+e<=60) (hz:gX M z):iR (nf z E) ⟨u,(e:Nat)⟩=some (nf (ai z u) (E+e)):=by
 obtain ⟨i1,i2,i3⟩:=eB E z;obtain ⟨m,j,hmj⟩:∃ m j,fE E z=(m,j):=⟨_,_,rfl⟩;have ez:nf z E=⟨m,(j:Nat)⟩:=by unfold nf;rw [hmj]
 have oz:=rF hz hM (show E<=60 by omega);rw [hmj] at i1 i2 i3;simp only at i1 i2 i3;rw [ez] at oz ⊢;have bm:gX M m:=lJ (E - j) (by rw [<- i2];exact hz);have bu:=ui hu bm;have hmul:oT m u=some (ai m u):=by
  unfold oT Uc;rw [mP bm hM,Rg hu,mP bu hM];rfl
 have hnf:nf (ai z u) (E+e)=nf (ai m u) (j+e):=by
  have h1:ai z u=dl (E - j) (ai m u):=by rw [<- rH hu,<- i2]
  rw [h1];have:=AI (E - j) (ai m u) (j+e);rw [show E - j+(j+e)=E+e by omega] at this;exact this
 unfold iR;rw [oz,MS hu he];simp only [Bool.and_self,if_true,hmul];rw [show ((j:Nat):Int)+(e:Int)=((j+e:Nat):Int) by omega,Df bu hM zO,hnf]
theorem MT (E:Nat):nf Zw.zero E=Dw.zero:=by
 have h:∀ k:Nat,fE k Zw.zero=(Zw.zero,0):=by
  intro k
  induction k with
  |zero=>rfl
  |succ k ih =>
   rw [fE,show dv Zw.zero=some Zw.zero by decide];exact ih
 unfold nf;rw [h];rfl
theorem AK {z:Zw} {E:Nat} (h:nf z E=Dw.zero):z=Zw.zero:=by
 have h2:=(eB E z).2.1;have h1:(fE E z).1=Zw.zero:=congrArg Dw.n h;rw [h1] at h2;rw [h2];have:∀ k:Nat,dl k Zw.zero=Zw.zero:=by
  intro k
  induction k with
  |zero=>rfl
  |succ k ih=>rw [dl,ih];decide
 exact this _
end Go.Proofs.YtmenmibfkojnoaaGreat
namespace Go.Proofs.YtmenmibfkojnoaaGreat
set_option linter.unusedVariables false
def NV (V:List Zw) (E:Nat):List Dw:=V.map fun z=>nf z E
def iz (z:Zw) (out:List Zw) (t:Nat × Dw):List Zw:=out.set t.1 (bV (out.getD t.1 Zw.zero) (ai z t.2.n))
def dD (z:Zw):List (Nat × Dw)->List Zw->List Zw
 |[],o=>o
 |t :: r,o=>dD z r (iz z o t)
def fP (g:Gt):Nat->List Zw->List Zw->List Zw
 |_,[],o=>o
 |i,z :: r,o=>fP g (i+1) r (dD z (bU g i) o)
def dL (g:Gt) (V:List Zw):List Zw:=fP g 0 V (List.replicate V.length Zw.zero)
def hc (g:Gt):Nat:=if g.k=4 then 1 else 0
def vB (lim:Nat):List (Nat × Dw)->List Nat->Option (List Nat)
 |[],c=>some c
 |t :: r,c=>if c.getD t.1 0+1<=lim then vB lim r (c.set t.1 (c.getD t.1 0+1)) else none
def Il (g:Gt) (lim:Nat):Nat->Nat->List Nat->Bool
 |_,0,_=>true
 |i,m+1,c=>match vB lim (bU g i) c with
  |some c'=>Il g lim (i+1) m c'
  |none=>false
def Bd (c:List Nat) (B:Int) (out:List Zw):Prop:=∀ t:Nat,gX ((c.getD t 0:Nat) * B) (out.getD t Zw.zero)
theorem kl {M M':Int} {z:Zw} (h:gX M z) (hm:M<=M'):gX M' z:=by
 unfold gX at h ⊢;omega
theorem Rh {M M':Int} {x y:Zw} (h:gX M x) (h':gX M' y):gX (M+M') (bV x y):=by
 unfold gX at h h' ⊢;simp only [bV];omega
theorem MU {V:List Zw} {E t:Nat} (ht:t < V.length):(NV V E).getD t Dw.zero=nf (V.getD t Zw.zero) E:=by
 unfold NV;rw [List.getD_eq_getElem?_getD,List.getD_eq_getElem?_getD,List.getElem?_map,List.getElem?_eq_getElem ht];rfl
theorem Ri {V:List Zw} {E t:Nat} {z:Zw}:(NV V E).set t (nf z E)=NV (V.set t z) E:=by
 unfold NV;rw [List.map_set]
theorem nh {V:List Zw} {E:Nat}:(NV V E).length=V.length:=by unfold NV;rw [List.length_map]
theorem iW {α:Type} {l:List α} {t s:Nat} {x d:α} (ht:t < l.length):(l.set t x).getD s d=if s=t then x else l.getD s d:=by
 rw [List.getD_eq_getElem?_getD,List.getD_eq_getElem?_getD,List.getElem?_set];by_cases h:t=s
 ·subst h;rw [if_pos rfl,if_pos rfl,if_pos ht];rfl
 ·rw [if_neg h,if_neg (fun e=>h e.symm)]
def tS (n e:Nat) (l:List (Nat × Dw)):Prop:=∀ t ∈ l,Dg t.2.n/\t.2.e=(e:Nat)/\t.1 < n
theorem Rj {lim E e n:Nat} {B:Int} {z:Zw} {out:List Zw} {c:List Nat} {t:Nat × Dw} (hB:0<=B) (hlim:(lim:Int) * B<=1073741824) (hE:E+e<=60) (hz:gX B z) (hu:Dg t.2.n) (he:t.2.e=(e:Nat)) (he1:e<=1) (htn:t.1 < n) (ho:out.length=n) (hcl:c.length=n) (hb:Bd c B out) (hl:c.getD t.1 0+1<=lim) :
  vf (nf z E) (NV out (E+e)) t=some (NV (iz z out t) (E+e))/\Bd (c.set t.1 (c.getD t.1 0+1)) B (iz z out t):=by
 obtain ⟨t,⟨u,x⟩⟩:=t;simp only at hu he htn hl;subst he;have h1:((c.getD t 0:Nat):Int) * B+B<=(lim:Int) * B:=by
  have:(((c.getD t 0+1:Nat):Int)) * B<=(lim:Int) * B:=Int.mul_le_mul_of_nonneg_right zO hB;rw [Int.natCast_add,Int.add_mul,Int.natCast_one,Int.one_mul] at this;exact this
 have h0:0<=((c.getD t 0:Nat):Int) * B:=Int.mul_nonneg zO hB;have hM:(1073741824:Int)<=1073741824:=zO;have bz:gX 1073741824 z:=kl hz zO;have bo:gX 1073741824 (out.getD t Zw.zero):=kl (hb t) zO;have bu:=ui hu hz;have bs:=Rh (hb t) bu;constructor
 ·unfold vf iz;rw [Dh hM hu he1 hE bz];simp only;rw [MU zO,MQ hM hE bo (kl bu zO) (kl bs zO)];simp only;rw [Ri]
 ·intro s;unfold iz;simp only;rw [iW zO,iW zO];by_cases hs:s=t
  ·rw [if_pos hs,if_pos hs];refine kl bs ?_;rw [Int.natCast_add,Int.add_mul,Int.natCast_one,Int.one_mul];omega
  ·rw [if_neg hs,if_neg hs];exact hb s
theorem Di {lim E e n:Nat} {B:Int} {z:Zw} (hB:0<=B) (hlim:(lim:Int) * B<=1073741824) (hE:E+e<=60) (hz:gX B z) (he1:e<=1):∀ (l:List (Nat × Dw)) (out:List Zw) (c c':List Nat),tS n e l->out.length=n->c.length=n->Bd c B out->vB lim l c=some c' →
  fR (nf z E) l (NV out (E+e))=some (NV (dD z l out) (E+e))/\Bd c' B (dD z l out)/\(dD z l out).length=n/\c'.length=n
 |[],out,c,c',hg,ho,hcl,hb,hh=>by
  rw [vB] at hh;injection hh with hh;subst hh
  exact ⟨rfl,hb,ho,hcl⟩
 |t :: r,out,c,c',hg,ho,hcl,hb,hh=>by
  rw [vB] at hh;by_cases hl:c.getD t.1 0+1<=lim
  ·rw [if_pos hl] at hh;obtain ⟨g1,g2,g3⟩:=hg t zI;obtain ⟨p1,p2⟩:=Rj hB hlim hE hz g1 g2 he1 g3 ho hcl hb hl;rw [fR,p1];simp only;exact Di hB hlim hE hz he1 r _ _ _ (fun x hx=>hg x (by simp [hx])) (by unfold iz;rw [List.length_set];exact ho) (by rw [List.length_set];exact hcl) p2 hh
  ·rw [if_neg hl] at hh;cases hh
theorem add_zero (x:Zw):bV x Zw.zero=x:=by apply du<;>simp [bV,Zw.zero]
theorem a8 (u:Zw):ai Zw.zero u=Zw.zero:=by apply du<;>simp [ai,Zw.zero]
theorem pa:∀ (l:List (Nat × Dw)) (out:List Zw),dD Zw.zero l out=out
 |[],out=>rfl
 |t :: r,out=>by
  rw [dD];have e:iz Zw.zero out t=out:=by
   unfold iz;rw [a8,add_zero];refine List.ext_getElem? fun s=>?_
   rw [List.getElem?_set];by_cases h:t.1=s
   ·subst h;by_cases h2:t.1 < out.length
    ·rw [if_pos rfl,if_pos h2,List.getD_eq_getElem?_getD,List.getElem?_eq_getElem h2];rfl
    ·rw [if_pos rfl,if_neg h2,List.getElem?_eq_none zO]
   ·rw [if_neg h]
  rw [e];exact pa r out
theorem Dj {g:Gt} {lim E n:Nat} {B:Int} (hB:0<=B) (hlim:(lim:Int) * B<=1073741824) (hE:E+hc g<=60):∀ (V:List Zw) (i:Nat) (out:List Zw) (c:List Nat),(∀ j,i<=j->j < i+V.length->tS n (hc g) (bU g j))->(∀ z ∈ V,gX B z)->out.length=n->c.length=n->Bd c B out->(∀ s,c.getD s 0<=lim)->Il g lim i V.length c=true →
  nE g i (NV V E) (NV out (E+hc g))=some (NV (fP g i V out) (E+hc g))/\(∀ s,gX ((lim:Int) * B) ((fP g i V out).getD s Zw.zero))/\(fP g i V out).length=n
 |[],i,out,c,hg,hV,ho,hcl,hb,hcm,hcn=>by
  refine ⟨rfl,fun s=>kl (hb s) (Int.mul_le_mul_of_nonneg_right (by have:=hcm s;omega) hB),ho⟩
 |z :: r,i,out,c,hg,hV,ho,hcl,hb,hcm,hcn=>by
  rw [List.length_cons,Il] at hcn;cases hh:vB lim (bU g i) c with
  |none=>rw [hh] at hcn;cases hcn
  |some c' =>
   rw [hh] at hcn;have he1:hc g<=1:=by unfold hc;split<;>omega
   obtain ⟨p1,p2,p3,p4⟩:=Di hB hlim hE (hV z zI) he1 (bU g i) out c c' (hg i zR zI) ho hcl hb hh;have hcm':∀ s,c'.getD s 0<=lim:=hit_le _ _ _ hcm hh;have ih:=Dj hB hlim hE r (i+1) (dD z (bU g i) out) c' (fun j h1 h2=>hg j zO (by simp at h2 ⊢;omega)) (fun x hx=>hV x (by simp [hx])) p3 p4 p2 hcm' hcn;rw [fP];refine ⟨?_,ih.2⟩;unfold NV;rw [List.map_cons,nE];by_cases hz:nf z E=Dw.zero
   ·rw [if_pos hz];have hz0:=AK hz;subst hz0;rw [pa] at ih ⊢;exact ih.1
   ·rw [if_neg hz];have p1':=p1;unfold NV at p1';rw [p1'];exact ih.1
where
 hit_le {lim:Nat}:∀ (l:List (Nat × Dw)) (c c':List Nat),(∀ s,c.getD s 0<=lim)->vB lim l c=some c'->∀ s,c'.getD s 0<=lim
 |[],c,c',h,hh=>by
  rw [vB] at hh;injection hh with hh;subst hh
  exact h
 |t :: r,c,c',h,hh=>by
  rw [vB] at hh;by_cases hl:c.getD t.1 0+1<=lim
  ·rw [if_pos hl] at hh;refine hit_le r _ _ (fun s=>?_) hh;by_cases ht:t.1 < c.length
   ·rw [iW ht];split
    ·exact hl
    ·exact h s
   ·rw [List.set_eq_of_length_le zO];exact h s
  ·rw [if_neg hl] at hh;cases hh
def Rk (u:Zw):Bool:=[(⟨1,0,0,0⟩:Zw),⟨0,1,0,0⟩,⟨0,0,1,0⟩,⟨0,0,0,1⟩,⟨-1,0,0,0⟩,⟨0, -1,0,0⟩,⟨0,0, -1,0⟩,⟨0,0,0, -1⟩].contains u
theorem x8 {u:Zw} (h:Rk u=true):Dg u:=by
 simpa [Rk,Dg] using h
def PP (n e:Nat) (l:List (Nat × Dw)):Bool:=l.all fun t=>Rk t.2.n && (decide (t.2.e=(e:Nat)) && decide (t.1 < n))
theorem Im:(gates3.all fun g=>(List.range 8).all fun i=>PP 8 (hc g) (bU g i))=true:=by decide +kernel
theorem PQ {g:Gt} (hg:Gn g=true) {i:Nat} (hi:i < 8):tS 8 (hc g) (bU g i):=by
 have h:=List.all_eq_true.1 (List.all_eq_true.1 Im g (Mv hg)) i (List.mem_range.2 hi);intro t ht;have h2:=List.all_eq_true.1 h t ht;simp only [Bool.and_eq_true,decide_eq_true_eq] at h2;exact ⟨x8 h2.1,h2.2.1,h2.2.2⟩
theorem MV (n E:Nat):NV (List.replicate n Zw.zero) E=List.replicate n Dw.zero:=by
 unfold NV;rw [List.map_replicate,MT]
end Go.Proofs.YtmenmibfkojnoaaGreat
namespace Go.Proofs.YtmenmibfkojnoaaGreat
set_option linter.unusedVariables false
def bl (V W:List Zw):List Zw:=List.zipWith bV V W
def cB (c:Zw) (V:List Zw):List Zw:=V.map fun x=>ai x c
def eU (i:Nat):List Zw:=(List.replicate 8 Zw.zero).set i ⟨1,0,0,0⟩
theorem In (z c:Zw):ai (rt z) c=rt (ai z c):=by
 apply du<;>simp only [ai,rt,Int.sub_mul,Int.add_mul]<;>omega
theorem iG (x y c:Zw):ai (bV x y) c=bV (ai x c) (ai y c):=by
 apply du<;>simp only [ai,bV,Int.add_mul]<;>omega
theorem mq (c:Zw):∀ (k:Nat) (z:Zw),ai (dl k z) c=dl k (ai z c)
 |0,z=>rfl
 |k+1,z=>by rw [dl,In,mq c k z];rfl
theorem rI {u:Zw} (hu:Dg u) (z c:Zw):ai (ai z c) u=ai (ai z u) c:=by
 rcases hu with h | h | h | h | h | h | h | h<;>subst h<;>apply du<;>simp [ai,Int.neg_mul]<;>omega
theorem rJ (a b c d:Zw):bV (bV a b) (bV c d)=bV (bV a c) (bV b d):=by
 apply du<;>simp only [bV]<;>omega
theorem gJ (x:Zw):bV Zw.zero x=x:=by apply du<;>simp [bV,Zw.zero]
theorem cZ (c:Zw):ai ⟨1,0,0,0⟩ c=c:=by apply du<;>simp [ai]
theorem bQ {V W:List Zw} (h:V.length=8) (h':W.length=8):(bl V W).length=8:=by unfold bl;rw [List.length_zipWith,h,h'];rfl
theorem Dk {c:Zw} {V:List Zw} (h:V.length=8):(cB c V).length=8:=by unfold cB;rw [List.length_map,h]
theorem aS {V W:List Zw} (h:V.length=W.length) (t:Nat):(bl V W).getD t Zw.zero=bV (V.getD t Zw.zero) (W.getD t Zw.zero):=by
 unfold bl;rw [List.getD_eq_getElem?_getD,List.getD_eq_getElem?_getD,List.getD_eq_getElem?_getD,List.getElem?_zipWith];rcases Nat.lt_or_ge t V.length with ht | ht
 ·rw [List.getElem?_eq_getElem ht,List.getElem?_eq_getElem zO];rfl
 ·rw [List.getElem?_eq_none ht,List.getElem?_eq_none zO];rfl
theorem bj {c:Zw} {V:List Zw} (t:Nat):(cB c V).getD t Zw.zero=ai (V.getD t Zw.zero) c:=by
 unfold cB;rw [List.getD_eq_getElem?_getD,List.getD_eq_getElem?_getD,List.getElem?_map];rcases Nat.lt_or_ge t V.length with ht | ht
 ·rw [List.getElem?_eq_getElem ht];rfl
 ·rw [List.getElem?_eq_none ht];exact (a8 c).symm
theorem Io {V W:List Zw} {t:Nat} {x y:Zw} (h:V.length=W.length):bl (V.set t x) (W.set t y)=(bl V W).set t (bV x y):=by
 unfold bl;refine List.ext_getElem? fun s=>?_
 rw [List.getElem?_zipWith,List.getElem?_set,List.getElem?_set,List.getElem?_set,List.getElem?_zipWith,List.length_zipWith];by_cases hs:t=s
 ·subst hs;rcases Nat.lt_or_ge t V.length with ht | ht
  ·rw [if_pos rfl,if_pos rfl,if_pos rfl,if_pos ht,if_pos zO,if_pos zO]
  ·rw [if_pos rfl,if_pos rfl,if_pos rfl,if_neg zO,if_neg zO,if_neg zO]
 ·rw [if_neg hs,if_neg hs,if_neg hs]
theorem MW {c:Zw} {V:List Zw} {t:Nat} {x:Zw}:cB c (V.set t x)=(cB c V).set t (ai x c):=by unfold cB;rw [List.map_set]
theorem jX (z:Zw):∀ (l:List (Nat × Dw)) (O:List Zw),(dD z l O).length=O.length
 |[],O=>rfl
 |t :: r,O=>by rw [dD,jX z r];unfold iz;rw [List.length_set]
theorem rK {n e:Nat} (z w:Zw):∀ (l:List (Nat × Dw)) (O P:List Zw),tS n e l->O.length=P.length->dD (bV z w) l (bl O P)=bl (dD z l O) (dD w l P)
 |[],O,P,_,_=>rfl
 |t :: r,O,P,hg,h=>by
  have hu:=(hg t zI).1;rw [dD,dD,dD];have e1:iz (bV z w) (bl O P) t=bl (iz z O t) (iz w P t):=by
   unfold iz;rw [Io h,aS h,rG hu,rJ]
  rw [e1];exact rK z w r _ _ (fun x hx=>hg x (by simp [hx])) (by unfold iz;rw [List.length_set,List.length_set];exact h)
theorem rL {n e:Nat} (z c:Zw):∀ (l:List (Nat × Dw)) (O:List Zw),tS n e l->dD (ai z c) l (cB c O)=cB c (dD z l O)
 |[],O,_=>rfl
 |t :: r,O,hg=>by
  have hu:=(hg t zI).1;rw [dD,dD];have e1:iz (ai z c) (cB c O) t=cB c (iz z O t):=by
   unfold iz;rw [MW,bj,iG,rI hu]
  rw [e1];exact rL z c r _ (fun x hx=>hg x (by simp [hx]))
theorem rM (g:Gt):∀ (V:List Zw) (i:Nat) (O:List Zw),(fP g i V O).length=O.length
 |[],i,O=>rfl
 |z :: r,i,O=>by rw [fP,rM g r,jX]
theorem x9 {g:Gt} (hg:Gn g=true):∀ (V W:List Zw) (i:Nat) (O P:List Zw),i+V.length<=8->V.length=W.length->O.length=P.length->fP g i (bl V W) (bl O P)=bl (fP g i V O) (fP g i W P)
 |[],[],i,O,P,_,_,_=>rfl
 |z :: r,w :: s,i,O,P,hi,h1,h2=>by
  rw [List.length_cons] at hi h1;rw [List.length_cons] at h1;show fP g (i+1) (bl r s) (dD (bV z w) (bU g i) (bl O P))=_;rw [rK z w (bU g i) O P (PQ hg zO) h2,x9 hg r s (i+1) _ _ zO zO (by rw [jX,jX];exact h2)];rfl
 |[],w :: s,i,O,P,_,h1,_=>by simp at h1
 |z :: r,[],i,O,P,_,h1,_=>by simp at h1
theorem ye {g:Gt} (hg:Gn g=true) (c:Zw):∀ (V:List Zw) (i:Nat) (O:List Zw),i+V.length<=8->fP g i (cB c V) (cB c O)=cB c (fP g i V O)
 |[],i,O,_=>rfl
 |z :: r,i,O,hi=>by
  rw [List.length_cons] at hi;show fP g (i+1) (cB c r) (dD (ai z c) (bU g i) (cB c O))=_;rw [rL z c (bU g i) O (PQ hg zO),ye hg c r (i+1) _ zO];rfl
def Lin (f:List Zw->List Zw):Prop :=
 (∀ V W,V.length=8->W.length=8->f (bl V W)=bl (f V) (f W))/\(∀ c V,V.length=8->f (cB c V)=cB c (f V))/\∀ V,V.length=8->(f V).length=8
theorem MY {g:Gt} (hg:Gn g=true):Lin (dL g):=by
 refine ⟨fun V W h1 h2=>?_,fun c V h1=>?_,fun V h1=>?_⟩
 ·unfold dL;rw [bQ h1 h2,h1,h2];have e:List.replicate 8 Zw.zero=bl (List.replicate 8 Zw.zero) (List.replicate 8 Zw.zero):=zD;rw [e,x9 hg V W 0 _ _ zO zO rfl,<- e]
 ·unfold dL;rw [Dk h1,h1];have e:List.replicate 8 Zw.zero=cB c (List.replicate 8 Zw.zero):=by
   unfold cB;rw [List.map_replicate,a8]
  have:=ye hg c V 0 (List.replicate 8 Zw.zero) zO;rw [<- e] at this;exact this
 ·unfold dL;rw [rM,List.length_replicate,h1]
theorem Ip {p:Prop} (h:p:=by
  refine ⟨fun V W h1 h2=>?_,fun c V h1=>?_,fun V h1=>hh.2.2 _ (hf.2.2 V h1)⟩
  ·simp only;rw [hf.1 V W h1 h2,hh.1 _ _ (hf.2.2 V h1) (hf.2.2 W h2)]
  ·simp only;rw [hf.2.1 c V h1,hh.2.1 c _ (hf.2.2 V h1)]):p:=h
theorem Lin.comp {f h:List Zw->List Zw} (hf:Lin f) (hh:Lin h):Lin (fun V=>h (f V)):=by
 exact Ip
theorem Rm:Lin (fun V=>V):=⟨fun _ _ _ _=>rfl,fun _ _ _=>rfl,fun _ h=>h⟩
theorem Dl (k:Nat):Lin (fun V=>V.map (dl k)):=by
 refine ⟨fun V W h1 h2=>?_,fun c V h1=>?_,fun V h1=>by rw [List.length_map,h1]⟩
 ·unfold bl
  dsimp only
  rw [List.map_zipWith,List.zipWith_map];congr 1
  funext x y
  exact qF k x y
 ·unfold cB
  dsimp only
  rw [List.map_map,List.map_map];congr 1
  funext x
  exact (mq c k x).symm
def VU (a b c d e f g h:Zw):List Zw:=bl (cB a (eU 0)) (bl (cB b (eU 1)) (bl (cB c (eU 2)) (bl (cB d (eU 3)) (bl (cB e (eU 4)) (bl (cB f (eU 5)) (bl (cB g (eU 6)) (cB h (eU 7))))))))
theorem Rn (a b c d e f g h:Zw):VU a b c d e f g h=[a,b,c,d,e,f,g,h]:=by
 simp [VU,cB,eU,bl,List.replicate,a8,cZ,gJ,add_zero]
theorem AL (i:Nat):(eU i).length=8:=by unfold eU;rw [List.length_set,List.length_replicate]
theorem Dm {f:List Zw->List Zw} (hf:Lin f) (a b c d e g h k:Zw):f (VU a b c d e g h k)=bl (cB a (f (eU 0))) (bl (cB b (f (eU 1))) (bl (cB c (f (eU 2))) (bl (cB d (f (eU 3))) (bl (cB e (f (eU 4))) (bl (cB g (f (eU 5))) (bl (cB h (f (eU 6))) (cB k (f (eU 7))))))))):=by
 have s:=fun x i=>Dk (c:=x) (AL i)
 have q:=fun x i=>hf.2.1 x (eU i) (AL i)
 unfold VU;rw [hf.1 _ _ (s _ _) (bQ (s _ _) (bQ (s _ _) (bQ (s _ _) (bQ (s _ _) (bQ (s _ _) (bQ (s _ _) (s _ _))))))),hf.1 _ _ (s _ _) (bQ (s _ _) (bQ (s _ _) (bQ (s _ _) (bQ (s _ _) (bQ (s _ _) (s _ _)))))),hf.1 _ _ (s _ _) (bQ (s _ _) (bQ (s _ _) (bQ (s _ _) (bQ (s _ _) (s _ _))))),hf.1 _ _ (s _ _) (bQ (s _ _) (bQ (s _ _) (bQ (s _ _) (s _ _)))),hf.1 _ _ (s _ _) (bQ (s _ _) (bQ (s _ _) (s _ _))),hf.1 _ _ (s _ _) (bQ (s _ _) (s _ _)),hf.1 _ _ (s _ _) (s _ _)];rw [q,q,q,q,q,q,q,q]
theorem M6 {f h:List Zw->List Zw} (hf:Lin f) (hh:Lin h) (he:∀ i,i < 8->f (eU i)=h (eU i)) {V:List Zw} (hV:V.length=8):f V=h V:=by
 match V,hV with
 |[a,b,c,d,e,g,k,l],_ =>
  rw [<- Rn a b c d e g k l,Dm hf,Dm hh,he 0 zO,he 1 zO,he 2 zO,he 3 zO,he 4 zO,he 5 zO,he 6 zO,he 7 zO]
end Go.Proofs.YtmenmibfkojnoaaGreat
namespace Go.Proofs.YtmenmibfkojnoaaGreat
set_option linter.unusedVariables false
def aX:List Gt->List Zw->List Zw
 |[],V=>V
 |g :: r,V=>aX r (dL g V)
def cP:List Gt->Nat
 |[]=>0
 |g :: r=>hc g+cP r
theorem cK (a b:List Gt) (V:List Zw):aX (a++b) V=aX b (aX a V):=by
 induction a generalizing V with
 |nil=>rfl
 |cons g r ih=>exact ih (dL g V)
theorem dE (a b:List Gt):cP (a++b)=cP a+cP b:=by
 induction a with
 |nil=>simp [cP]
 |cons g r ih =>
  show hc g+cP (r++b)=hc g+cP r+cP b;rw [ih];omega
theorem jY:∀ (gs:List Gt),(∀ g ∈ gs,Gn g=true)->Lin (aX gs)
 |[],_=>Rm
 |g :: r,h=>(MY (h g zI)).comp (jY r (fun x hx=>h x (by simp [hx])))
theorem Ro {z w:Zw} {E:Nat} (h:nf z E=nf w E):z=w:=by
 have h1:=(eB E z).2.1;have h2:=(eB E w).2.1;have e1:(fE E z).1=(fE E w).1:=congrArg Dw.n h;have e2:(fE E z).2=(fE E w).2:=by
  have:=congrArg Dw.e h;unfold nf at this;simp only at this;omega
 rw [h1,h2,e1,e2]
def Rl (k:Nat) (a b:List Gt):Prop:=cP a=cP b+k/\∀ V:List Zw,V.length=8->aX a V=(aX b V).map (dl k)
theorem Rl.refl (a:List Gt):Rl 0 a a:=⟨rfl,fun V _=>by
 have:(dl 0)=fun z:Zw=>z:=rfl
 rw [this,List.map_id']⟩
theorem Rl.trans {k l:Nat} {a b c:List Gt} (h:Rl k a b) (h':Rl l b c):Rl (k+l) a c:=by
 refine ⟨by rw [h.1,h'.1];omega,fun V hV=>?_⟩;rw [h.2 V hV,h'.2 V hV,List.map_map];congr 1
 funext z
 exact (iy k l z).symm
theorem M7 {gs:List Gt} (hg:∀ g ∈ gs,Gn g=true) (k:Nat) {V:List Zw} (hV:V.length=8):aX gs (V.map (dl k))=(aX gs V).map (dl k):=by
 have h1:=(Dl k).comp (jY gs hg);have h2:=(jY gs hg).comp (Dl k);refine M6 h1 h2 (fun i _=>?_) hV;have e:∀ W:List Zw,W.map (dl k)=cB (dl k ⟨1,0,0,0⟩) W:=by
  intro W;unfold cB;congr 1
  funext x
  have:∀ j:Nat,dl j x=ai x (dl j ⟨1,0,0,0⟩):=by
   intro j
   induction j with
   |zero =>
    show x=ai x ⟨1,0,0,0⟩
    apply du<;>simp [ai]
   |succ j ih =>
    show rt (dl j x)=ai x (rt (dl j ⟨1,0,0,0⟩));rw [ih]
    apply du<;>simp only [ai,rt,Int.mul_sub,Int.mul_add]<;>omega
  exact this k
 show aX gs ((eU i).map (dl k))=(aX gs (eU i)).map (dl k);rw [e,e,(jY gs hg).2.1 _ _ (AL i)]
theorem Rl.mid {k:Nat} {a b p q:List Gt} (hp:∀ g ∈ p,Gn g=true) (hb:∀ g ∈ b,Gn g=true) (hq:∀ g ∈ q,Gn g=true) (h:Rl k a b):Rl k (p++(a++q)) (p++(b++q)):=by
 refine ⟨by rw [dE,dE,dE,dE,h.1];omega,fun V hV=>?_⟩;have l1:=(jY p hp).2.2 V hV;rw [cK,cK,cK,cK,h.2 _ l1,M7 hq k ((jY b hb).2.2 _ l1)]
def VV (n:Nat):List Int:=(List.range n).map Int.ofNat
def bF (n:Nat) (g:Gt):Bool:=fJ g.k g.a g.b g.c (n:Int)
def bC (n:Nat):List Gt:=(ks3.flatMap fun k=>(VV n).flatMap fun a=>(VV n).flatMap fun b=>(VV n).map fun c=>(⟨k,a,b,c⟩:Gt)).filter (bF n)
theorem Dn {ar hi:Int} (h0:0<=hi):∀ (l seen:List Int),tZ ar hi seen l=true->∀ x ∈ l,0<=x/\x<=hi
 |[],_,_=>by simp
 |y :: r,seen,h=>by
  rw [tZ] at h;by_cases hb:jL ar hi seen.length seen y=true
  ·rw [if_pos hb] at h;cases h
  ·rw [if_neg hb] at h;intro x hx;rcases List.mem_cons.1 hx with rfl | hx
   ·unfold jL at hb;by_cases hlt:(seen.length:Int) < ar
    ·rw [if_pos hlt] at hb;rcases eO x 0 hi with ⟨_,h1⟩ | ⟨h1,_⟩
     ·exact h1
     ·rw [h1] at hb;simp at hb
    ·rw [if_neg hlt] at hb;have:x=0:=by simpa using hb
     omega
   ·exact Dn h0 r _ h x hx
theorem vC {n:Nat} {x:Int} (h:0<=x/\x<=(n:Int) - 1):x ∈ VV n:=by
 refine List.mem_map.2 ⟨x.toNat,List.mem_range.2 zO,?_⟩;show ((x.toNat:Nat):Int)=x;omega
theorem dm {n:Nat} {g:Gt} (h:bF n g=true):1<=n/\n<=4:=by
 unfold bF fJ at h;simp only [Bool.and_eq_true] at h;have:=inB_iff.1 h.1;omega
theorem cS {n:Nat} {g:Gt} (h:bF n g=true):g ∈ bC n:=by
 refine List.mem_filter.2 ⟨?_,h⟩;have hn:=dm h;unfold bF fJ at h;simp only [Bool.and_eq_true,decide_eq_true_eq] at h;have hb:=Dn zO _ _ h.2.2;have ha:=vC (hb g.a zI);have hb':=vC (hb g.b zI);have hc:=vC (hb g.c zI);have hk:=Hx h.2.1;exact List.mem_flatMap.2 ⟨g.k,hk,List.mem_flatMap.2 ⟨g.a,ha,List.mem_flatMap.2 ⟨g.b,hb',List.mem_map.2 ⟨g.c,hc,rfl⟩⟩⟩⟩
def Iq (n:Nat):Bool:=(bC n).all fun g=>Il g (1+hc g) 0 (2 ^ n) (List.replicate (2 ^ n) 0) && (List.range (2 ^ n)).all fun i=>PP (2 ^ n) (hc g) (bU g i)
theorem Wg:Iq 1=true:=by decide +kernel
theorem Wh:Iq 2=true:=by decide +kernel
theorem Wi:Iq 3=true:=by decide +kernel
theorem Wj:Iq 4=true:=by decide +kernel
theorem Wk {n:Nat} (h:1<=n/\n<=4):Iq n=true:=by
 obtain rfl | rfl | rfl | rfl:n=1\/n=2\/n=3\/n=4:=zO
 ·exact Wg
 ·exact Wh
 ·exact Wi
 ·exact Wj
theorem rN {n:Nat} {g:Gt} (hg:bF n g=true):Il g (1+hc g) 0 (2 ^ n) (List.replicate (2 ^ n) 0)=true/\∀ i,i < 2 ^ n->tS (2 ^ n) (hc g) (bU g i):=by
 have h:=List.all_eq_true.1 (Wk (dm hg)) g (cS hg);simp only [Bool.and_eq_true] at h;refine ⟨h.1,fun i hi t ht=>?_⟩;have h3:=List.all_eq_true.1 (List.all_eq_true.1 h.2 i (List.mem_range.2 hi)) t ht;simp only [Bool.and_eq_true,decide_eq_true_eq] at h3;exact ⟨x8 h3.1,h3.2.1,h3.2.2⟩
theorem eQ {α:Type} (n s:Nat) (x:α):(List.replicate n x).getD s x=x:=by
 rw [List.getD_eq_getElem?_getD,List.getElem?_replicate];split<;>rfl
theorem Ir {n:Nat} {g:Gt} {E:Nat} {B:Int} {V:List Zw} (hg:bF n g=true) (hB:0<=B) (hlim:((1+hc g:Nat):Int) * B<=1073741824) (hE:E+hc g<=60) (hl:V.length=2 ^ n) (hV:∀ z ∈ V,gX B z) :
  tP g (NV V E)=some (NV (dL g V) (E+hc g))/\(∀ z ∈ dL g V,gX (((1+hc g:Nat):Int) * B) z)/\(dL g V).length=2 ^ n:=by
 have hn:=dm hg;have hBM:B<=1073741824:=by
  have:(1:Int) * B<=((1+hc g:Nat):Int) * B:=Int.mul_le_mul_of_nonneg_right zO hB;omega
 obtain ⟨hcn,hgood⟩:=rN hg;obtain ⟨p1,p2,p3⟩:=Dj (n:=2 ^ n) hB hlim hE V 0 (List.replicate (2 ^ n) Zw.zero) (List.replicate (2 ^ n) 0) (fun j _ h2=>hgood j zO) hV zI zI
  (fun t=>by
   rw [eQ,eQ];unfold gX Zw.zero;simp)
  (fun s=>by rw [eQ];omega)
  (by rw [hl];exact hcn)
 rw [MV] at p1;have e:dL g V=fP g 0 V (List.replicate (2 ^ n) Zw.zero):=by unfold dL;rw [hl]
 rw [e];refine ⟨?_,fun z hz=>?_,p3⟩
 ·unfold tP;rw [nh,hl];have h1:PF (NV V E)=true:=by
   unfold PF;rw [nh,hl,nM hn.1 hn.2];simp only [Bool.and_eq_true,List.all_eq_true,decide_eq_true_eq];refine ⟨fun x hx=>?_,zO⟩;obtain ⟨z,hz,rfl⟩:=List.mem_map.1 hx;exact rF (hV z hz) hBM zO
  have h2:fJ g.k g.a g.b g.c (Me (2 ^ n):Nat)=true:=by rw [nM hn.1 hn.2];exact hg
  rw [h1,h2];simp only [Bool.and_self,if_true];exact p1
 ·obtain ⟨s,hs⟩:=List.getElem?_of_mem hz;have:=p2 s;rw [List.getD_eq_getElem?_getD,hs] at this;exact this
def eN (N i:Nat):List Zw:=(List.replicate N Zw.zero).set i ⟨1,0,0,0⟩
theorem be (N i:Nat):(eN N i).length=N:=by unfold eN;rw [List.length_set,List.length_replicate]
theorem uj {N e:Nat} {g:Gt} (hg:∀ j,j < N->tS N e (bU g j)):∀ (V W:List Zw) (i:Nat) (O P:List Zw),i+V.length<=N->V.length=W.length->O.length=P.length->fP g i (bl V W) (bl O P)=bl (fP g i V O) (fP g i W P)
 |[],[],i,O,P,_,_,_=>rfl
 |z :: r,w :: s,i,O,P,hi,h1,h2=>by
  rw [List.length_cons] at hi h1;rw [List.length_cons] at h1;show fP g (i+1) (bl r s) (dD (bV z w) (bU g i) (bl O P))=_;rw [rK z w (bU g i) O P (hg i zO) h2,uj hg r s (i+1) _ _ zO zO (by rw [jX,jX];exact h2)];rfl
 |[],w :: s,i,O,P,_,h1,_=>by simp at h1
 |z :: r,[],i,O,P,_,h1,_=>by simp at h1
theorem uk {N e:Nat} {g:Gt} (hg:∀ j,j < N->tS N e (bU g j)) (c:Zw):∀ (V:List Zw) (i:Nat) (O:List Zw),i+V.length<=N->fP g i (cB c V) (cB c O)=cB c (fP g i V O)
 |[],i,O,_=>rfl
 |z :: r,i,O,hi=>by
  rw [List.length_cons] at hi;show fP g (i+1) (cB c r) (dD (ai z c) (bU g i) (cB c O))=_;rw [rL z c (bU g i) O (hg i zO),uk hg c r (i+1) _ zO];rfl
theorem aH {V W:List Zw} {N:Nat} (h:V.length=N) (h':W.length=N):(bl V W).length=N:=by unfold bl;rw [List.length_zipWith,h,h',Nat.min_self]
theorem aK (c:Zw) (V:List Zw):(cB c V).length=V.length:=by unfold cB;rw [List.length_map]
def LinN (N:Nat) (f:List Zw->List Zw):Prop :=
 (∀ V W,V.length=N->W.length=N->f (bl V W)=bl (f V) (f W))/\(∀ c V,V.length=N->f (cB c V)=cB c (f V))/\∀ V,V.length=N->(f V).length=N
theorem Do (N:Nat):bl (List.replicate N Zw.zero) (List.replicate N Zw.zero)=List.replicate N Zw.zero:=by
 unfold bl;rw [List.zipWith_replicate,Nat.min_self,gJ]
theorem mr (c:Zw) (N:Nat):cB c (List.replicate N Zw.zero)=List.replicate N Zw.zero:=by
 unfold cB;rw [List.map_replicate,a8]
theorem aL {n:Nat} {g:Gt} (hg:bF n g=true):LinN (2 ^ n) (dL g):=by
 obtain ⟨_,hgood⟩:=rN hg;refine ⟨fun V W h1 h2=>?_,fun c V h1=>?_,fun V h1=>?_⟩
 ·unfold dL;rw [aH h1 h2,h1,h2];have:=uj hgood V W 0 (List.replicate (2 ^ n) Zw.zero) (List.replicate (2 ^ n) Zw.zero) zO zO rfl;rw [Do] at this;exact this
 ·unfold dL;rw [aK,h1];have:=uk hgood c V 0 (List.replicate (2 ^ n) Zw.zero) zO;rw [mr] at this;exact this
 ·unfold dL;rw [rM,List.length_replicate,h1]
theorem LinN.comp {N:Nat} {f h:List Zw->List Zw} (hf:LinN N f) (hh:LinN N h):LinN N (fun V=>h (f V)):=by
 exact Ip
theorem M8 (N:Nat):LinN N (fun V=>V):=⟨fun _ _ _ _=>rfl,fun _ _ _=>rfl,fun _ h=>h⟩
theorem pQ (x c d:Zw):ai (ai x c) d=ai (ai x d) c:=by
 apply du<;>simp only [ai,Int.sub_mul,Int.add_mul,Int.mul_assoc,Int.mul_comm c.a,Int.mul_comm c.b,Int.mul_comm c.c,Int.mul_comm c.d]<;>omega
theorem It (N:Nat) {u:Zw} (hu:Dg u):LinN N (cB u):=by
 refine ⟨fun V W h1 h2=>?_,fun c V h1=>?_,fun V h1=>by rw [aK,h1]⟩
 ·unfold cB bl;rw [List.map_zipWith,List.zipWith_map];congr 1
  funext x y
  exact rG hu x y
 ·unfold cB;rw [List.map_map,List.map_map];congr 1
  funext x
  exact (rI hu x c)
def nP (k:Nat) (V:List Zw):List Zw:=V.take k++List.replicate (V.length - k) Zw.zero
theorem iX (k:Nat) (V:List Zw):(nP k V).length=V.length:=by unfold nP;rw [List.length_append,List.length_take,List.length_replicate];omega
theorem rO {k:Nat} {V:List Zw} {s:Nat} (hs:s < V.length):(nP k V).getD s Zw.zero=if s < k then V.getD s Zw.zero else Zw.zero:=by
 unfold nP;rw [List.getD_eq_getElem?_getD,List.getElem?_append,List.length_take,List.getElem?_take,List.getElem?_replicate,List.getD_eq_getElem?_getD];by_cases h:s < k
 ·rw [if_pos zO,if_pos h,if_pos h]
 ·rw [if_neg zO,if_neg h];split<;>rfl
theorem bT {V W:List Zw} (h:V.length=W.length) (he:∀ s,s < V.length->V.getD s Zw.zero=W.getD s Zw.zero):V=W:=by
 refine List.ext_getElem h fun s s1 s2=>?_
 have:=he s s1;rw [List.getD_eq_getElem?_getD,List.getD_eq_getElem?_getD,List.getElem?_eq_getElem s1,List.getElem?_eq_getElem s2] at this;exact this
theorem ko {N i s:Nat} (hi:i < N):(eN N i).getD s Zw.zero=if s=i then ⟨1,0,0,0⟩ else Zw.zero:=by
 unfold eN;rw [iW (by rw [List.length_replicate];exact hi),eQ]
theorem Ff {k:Nat} {V:List Zw} (hk:k < V.length):nP (k+1) V=bl (nP k V) (cB (V.getD k Zw.zero) (eN V.length k)):=by
 refine bT (by rw [iX,aH (iX k V) (by rw [aK,be])]) fun s hs=>?_
 rw [iX] at hs;rw [aS (by rw [iX,aK,be]),bj,rO hs,rO hs,ko hk];by_cases h1:s=k
 ·subst h1;rw [if_pos zO,if_neg zO,if_pos rfl,cZ,gJ]
 ·rw [if_neg h1,a8,add_zero];by_cases h2:s < k
  ·rw [if_pos zO,if_pos h2]
  ·rw [if_neg zO,if_neg h2]
theorem fX {N:Nat} {f h:List Zw->List Zw} (hf:LinN N f) (hh:LinN N h) (he:∀ i,i < N->f (eN N i)=h (eN N i)) {V:List Zw} (hV:V.length=N):f V=h V:=by
 have go:∀ k,k<=N->f (nP k V)=h (nP k V):=by
  intro k
  induction k with
  |zero =>
   intro _;have e:nP 0 V=cB Zw.zero V:=by
    refine bT (by rw [iX,aK]) fun s hs=>?_
    rw [iX] at hs;rw [rO hs,if_neg zO,bj]
    apply du<;>simp [ai,Zw.zero]
   rw [e,hf.2.1 _ _ hV,hh.2.1 _ _ hV];have z:∀ W W':List Zw,W.length=W'.length->cB Zw.zero W=cB Zw.zero W':=by
    intro W W' hw;refine bT (by rw [aK,aK,hw]) fun s _=>?_
    rw [bj,bj]
    apply du<;>simp [ai,Zw.zero]
   exact z _ _ (by rw [hf.2.2 _ hV,hh.2.2 _ hV])
  |succ k ih =>
   intro hk;rw [Ff zO,hV];have l1:(nP k V).length=N:=by rw [iX,hV]
   have l2:(cB (V.getD k Zw.zero) (eN N k)).length=N:=by rw [aK,be]
   rw [hf.1 _ _ l1 l2,hh.1 _ _ l1 l2,hf.2.1 _ _ (be N k),hh.2.1 _ _ (be N k),ih zO,he k zO]
 have e:nP N V=V:=by unfold nP;rw [List.take_of_length_le zO,show V.length - N=0 by omega];simp
 have:=go N zR;rwa [e] at this
theorem aI {n:Nat}:∀ (gs:List Gt),(∀ g ∈ gs,bF n g=true)->LinN (2 ^ n) (aX gs)
 |[],_=>M8 _
 |g :: r,h=>(aL (h g zI)).comp (aI r (fun x hx=>h x (by simp [hx])))
theorem Fg (n i:Nat):iS n i=NV (eN (2 ^ n) i) 0:=by
 unfold iS NV eN;rw [List.map_set,List.map_replicate];rfl
theorem UA (N i:Nat):∀ z ∈ eN N i,gX 1 z:=by
 intro z hz;unfold eN at hz;rcases List.mem_or_eq_of_mem_set hz with h | h
 ·have:=List.eq_of_mem_replicate h;subst this;unfold gX Zw.zero;simp
 ·subst h;unfold gX;simp
theorem Iu (k:Nat):Dg (fw k):=Ik k
theorem yf (z:Zw) (j k:Nat):ai (ai z (fw j)) (fw k)=ai z (fw (j+k)):=by
 have e:∀ j:Nat,fw j=fw (j % 8):=fun j=>by unfold fw;rw [Nat.mod_mod]
 rw [e (j+k),Nat.add_mod,e j,e k];have hj:j % 8 < 8:=Nat.mod_lt _ zO;have hk:k % 8 < 8:=Nat.mod_lt _ zO;generalize j % 8=a at hj ⊢;generalize k % 8=b at hk ⊢;obtain h | h | h | h | h | h | h | h:a=0\/a=1\/a=2\/a=3\/a=4\/a=5\/a=6\/a=7:=zO
 all_goals subst h
 all_goals obtain h | h | h | h | h | h | h | h:b=0\/b=1\/b=2\/b=3\/b=4\/b=5\/b=6\/b=7:=zO
 all_goals subst h
 all_goals apply du<;>simp [ai,fw]
theorem rP (j k:Nat) (V:List Zw):cB (fw k) (cB (fw j) V)=cB (fw (j+k)) V:=by
 unfold cB;rw [List.map_map];congr 1
 funext z
 exact yf z j k
theorem nQ (V:List Zw):cB (fw 0) V=V:=by
 unfold cB;have:(fun x=>ai x (fw 0))=fun x:Zw=>x:=by
  funext x
  apply du<;>simp [ai,fw]
 rw [this,List.map_id']
theorem pb (g:Gt):∀ (k i:Nat) (O:List Zw),fP g i (List.replicate k Zw.zero) O=O
 |0,i,O=>rfl
 |k+1,i,O=>by rw [List.replicate_succ,fP,pa,pb g k]
theorem yh (g:Gt):∀ (V W:List Zw) (i:Nat) (O:List Zw),fP g i (V++W) O=fP g (i+V.length) W (fP g i V O)
 |[],W,i,O=>rfl
 |z :: r,W,i,O=>by
  rw [List.cons_append,fP,yh g r W,List.length_cons,show i+1+r.length=i+(r.length+1) by omega];rfl
theorem AN {N:Nat} {g:Gt} {i:Nat} (hi:i < N):dL g (eN N i)=dD ⟨1,0,0,0⟩ (bU g i) (List.replicate N Zw.zero):=by
 have e:eN N i=List.replicate i Zw.zero++⟨1,0,0,0⟩ :: List.replicate (N - i - 1) Zw.zero:=by
  refine List.ext_getElem? fun s=>?_
  unfold eN;rw [List.getElem?_set,List.length_replicate,List.getElem?_append,List.length_replicate,List.getElem?_replicate,List.getElem?_replicate,List.getElem?_cons,List.getElem?_replicate];by_cases h1:i=s
  ·subst h1;rw [if_pos rfl,if_pos hi,if_neg zO,if_pos zO]
  ·rw [if_neg h1];by_cases h2:s < i
   ·rw [if_pos zO,if_pos h2,if_pos h2]
   ·by_cases h3:s < N
    ·rw [if_pos h3,if_neg h2,if_neg (show ¬ s - i=0 by omega),if_pos zO]
    ·rw [if_neg h3,if_neg h2,if_neg (show ¬ s - i=0 by omega),if_neg zO]
 unfold dL;rw [be,e,yh,pb,List.length_replicate,Nat.zero_add,fP,pb]
theorem Iv {N:Nat} {g:Gt} {i j k:Nat} (hi:i < N) (hj:j < N) (h:bU g i=[(j,cV k)]):dL g (eN N i)=cB (fw k) (eN N j):=by
 rw [AN hi,h];show iz _ _ _=_;unfold iz;rw [eQ,gJ];show (List.replicate N Zw.zero).set j (ai ⟨1,0,0,0⟩ (fw k))=_;rw [cZ];unfold cB eN;rw [List.map_set,List.map_replicate,a8,cZ]
end Go.Proofs.YtmenmibfkojnoaaGreat
