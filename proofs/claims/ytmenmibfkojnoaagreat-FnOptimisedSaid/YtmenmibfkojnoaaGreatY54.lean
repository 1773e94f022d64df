/- Plain: shortening all runs of a list kee. -/
import Derived.Test.YtmenmibfkojnoaaGreatY53
set_option maxHeartbeats 16000000
namespace Go.Proofs.YtmenmibfkojnoaaGreat
set_option linter.unusedVariables false
def Ai (s:iw):List Gt:=s.1++s.2.flatten
def LW (n:Nat) (p:List Gt) (s:iw):Prop:=fH s/\(∀ q,n<=q->s.2.getD q []=[])/\je n s.1/\je n p/\Eqv n p (Ai s)/\c3 p=c3 s.1
theorem qY {n q:Nat} {l:List Gt} (hn:1<=n/\n<=4) (hq:q < n) (h:RunOn q l):je n l:=by
 rw [EE h];refine CH hn hq fun k hk=>?_
 obtain ⟨x,hx,rfl⟩:=List.mem_map.1 hk;exact (h x hx).2
theorem CJ {q:Nat}:∀ {l:List Gt},RunOn q l->c3 l=0
 |[],_=>rfl
 |g :: r,h=>by
  have h1:=(h g zI).2;show (if g.k=12 then 1 else 0)+c3 r=0;rw [if_neg zO,CJ (l:=r) fun x hx=>h x (by simp [hx])]
theorem tH {ls:List (List Gt)} {q:Nat} (hq:q < ls.length) (y:List Gt):ls.flatten=(ls.take q).flatten++(ls.getD q []++(ls.drop (q+1)).flatten)/\(ls.set q y).flatten=(ls.take q).flatten++(y++(ls.drop (q+1)).flatten):=by
 have e:ls=ls.take q++ls[q] :: ls.drop (q+1):=by rw [<- ax hq,List.take_append_drop]
 have g:ls.getD q []=ls[q]:=by rw [List.getD_eq_getElem?_getD,List.getElem?_eq_getElem hq];rfl
 constructor
 ·conv=>lhs;rw [e]
  rw [List.flatten_append,List.flatten_cons,g]
 ·rw [List.set_eq_take_append_cons_drop,if_pos hq,List.flatten_append,List.flatten_cons]
theorem jQ {s:iw} {q:Nat} {g:Gt} (h:s.2.length=4) (hg:g ∈ (s.2.take q).flatten):∃ p,p < q/\p < 4/\g ∈ s.2.getD p []:=by
 obtain ⟨x,hx,hgx⟩:=List.mem_flatten.1 hg;obtain ⟨p,hp,rfl⟩:=List.mem_iff_getElem.1 hx;rw [List.length_take] at hp;refine ⟨p,zO,zO,?_⟩;rw [List.getElem_take] at hgx;rw [List.getD_eq_getElem?_getD,List.getElem?_eq_getElem zO];exact hgx
theorem mV {s:iw} {q:Nat} {g:Gt} (h:s.2.length=4) (hg:g ∈ (s.2.drop (q+1)).flatten):∃ p,q < p/\p < 4/\g ∈ s.2.getD p []:=by
 obtain ⟨x,hx,hgx⟩:=List.mem_flatten.1 hg;obtain ⟨p,hp,rfl⟩:=List.mem_iff_getElem.1 hx;rw [List.length_drop] at hp;refine ⟨q+1+p,zO,zO,?_⟩;rw [List.getElem_drop] at hgx;rw [List.getD_eq_getElem?_getD,List.getElem?_eq_getElem zO];exact hgx
theorem tI {s:iw} {g:Gt} (h:s.2.length=4) (hg:g ∈ s.2.flatten):∃ p,p < 4/\g ∈ s.2.getD p []:=by
 have:(s.2.take 4).flatten=s.2.flatten:=by rw [List.take_of_length_le zO]
 obtain ⟨p,_,h2,h3⟩:=jQ (q:=4) h (by rw [this];exact hg);exact ⟨p,h2,h3⟩
theorem nw {n:Nat} {p:List Gt} {s:iw} (hn:1<=n/\n<=4) (h:LW n p s) {q:Nat} {g:Gt} (hq:q < 4) (hg:g ∈ s.2.getD q []):q < n/\bF n g=true/\aA g.k=1/\g.a.toNat=q/\tV g=[q]:=by
 have hqn:q < n:=by
  rcases Nat.lt_or_ge q n with h1 | h1
  ·exact h1
  ·rw [h.2.1 q h1] at hg;cases hg
 have hr:=h.1.2 q hq;have hf:=hr g hg;have ha:=pC hf.2;refine ⟨hqn,qY hn hqn hr g hg,ha,by rw [hf.1];rfl,?_⟩;unfold tV;rw [ha];show [g.a.toNat]=[q];rw [hf.1];rfl
theorem xH {n:Nat} {p:List Gt} {s:iw} (hn:1<=n/\n<=4) (h:LW n p s) (q:Nat):je n (s.2.take q).flatten/\je n (s.2.drop (q+1)).flatten/\je n s.2.flatten:=by
 refine ⟨fun g hg=>?_,fun g hg=>?_,fun g hg=>?_⟩
 ·obtain ⟨p,_,h2,h3⟩:=jQ h.1.1 hg;exact (nw hn h h2 h3).2.1
 ·obtain ⟨p,_,h2,h3⟩:=mV h.1.1 hg;exact (nw hn h h2 h3).2.1
 ·obtain ⟨p,h2,h3⟩:=tI h.1.1 hg;exact (nw hn h h2 h3).2.1
theorem jh (n:Nat):je n []:=fun _ hx=>by simp at hx
theorem Pu {n q:Nat} {p:List Gt} {s:iw} (hn:1<=n/\n<=4) (hq:q < 4) (h:LW n p s):LW n p (eV s q):=by
 have hlen:q < s.2.length:=by rw [h.1.1];exact hq
 obtain ⟨s1,s2,s3⟩:=h.1.2 q hq |> fun hr=>(⟨hr,Gh hr⟩:RunOn q (s.2.getD q [])/\_)
 have hokq:je n (s.2.getD q [])/\je n (cH (s.2.getD q []))/\Eqv n (s.2.getD q []) (cH (s.2.getD q [])):=by
  by_cases hqn:q < n
  ·exact ⟨qY hn hqn s1,qY hn hqn s2,s3 n hn hqn⟩
  ·rw [h.2.1 q zO,tC];exact ⟨jh n,jh n,Eqv.refl n []⟩
 obtain ⟨k1,k2,k3⟩:=hokq;obtain ⟨t1,t2,_⟩:=xH hn h q;obtain ⟨f1,f2⟩:=tH hlen [];refine ⟨(mg h.1 hq).1,fun r hr=>?_,bE h.2.2.1 k2,h.2.2.2.1,?_,?_⟩
 ·show (s.2.set q []).getD r []=[];rw [iP hlen];split
  ·rfl
  ·exact h.2.1 r hr
 ·refine h.2.2.2.2.1.trans ?_;unfold Ai eV;simp only;rw [f1,f2];have e1:=(kO (s.2.take q).flatten (s.2.getD q []) t1 k1 fun x hx y hy=>by
   obtain ⟨p',hp1,hp2,hp3⟩:=jQ h.1.1 hx;obtain ⟨_,o1,a1,_,u1⟩:=nw hn h hp2 hp3;obtain ⟨_,o2,a2,b2,_⟩:=nw hn h hq hy;exact (LF o2 a2 o1 (by rw [b2,u1];simp;omega)).2).mid (p:=s.1) (q:=(s.2.drop (q+1)).flatten) h.2.2.1 (bE t1 k1) (bE k1 t1) t2
  have e2:=k3.mid (p:=s.1) (q:=(s.2.take q).flatten++(s.2.drop (q+1)).flatten) h.2.2.1 k1 k2 (bE t1 t2);simp only [List.append_assoc,List.nil_append] at e1 e2 ⊢;exact e1.trans e2
 ·show c3 p=c3 (s.1++cH _);rw [eE,CJ s2,h.2.2.2.2.2];rfl
theorem tJ {n:Nat} {p:List Gt} (hn:1<=n/\n<=4):∀ (qs:List Nat) (s:iw),(∀ q ∈ qs,q < 4)->LW n p s->LW n p (ct s qs)/\∀ r,(r ∈ qs\/s.2.getD r []=[])->(ct s qs).2.getD r []=[]
 |[],s,_,h=>⟨h,fun r hr=>hr.elim (fun h=>by cases h) id⟩
 |q :: qs,s,hq,h=>by
  have hq4:=hq q zI;obtain ⟨a,b⟩:=tJ hn qs (eV s q) (fun x hx=>hq x (by simp [hx])) (Pu hn hq4 h);refine ⟨a,fun r hr=>b r ?_⟩;have hg:∀ x,(eV s q).2.getD x []=if x=q then [] else s.2.getD x []:=fun x=>iP (by rw [h.1.1];exact hq4)
  rw [hg];rcases hr with hr | hr
  ·rcases List.mem_cons.1 hr with rfl | hr
   ·exact .inr (if_pos rfl)
   ·exact .inl hr
  ·right
   split
   ·rfl
   ·exact hr
theorem Pv {n:Nat} {p:List Gt} {s:iw} {g:Gt} (hn:1<=n/\n<=4) (hg:bF n g=true) (h:LW n p s):LW n (p++[g]) (qu s g):=by
 have og:=fB hg;unfold qu;by_cases ha:aA g.k=1
 ·rw [if_pos ha];obtain ⟨f1,f2,f3⟩:=LG hg ha;obtain ⟨q,hqe⟩:∃ q,g.a.toNat=q:=⟨_,rfl⟩;rw [hqe] at f1 f2 ⊢;have hq:q < 4:=zO;have hlen:q < s.2.length:=by rw [h.1.1];exact hq
  obtain ⟨t1,t2,t3⟩:=xH hn h q;have k1:je n (s.2.getD q []):=qY hn f2 (h.1.2 q hq);obtain ⟨r1,r2⟩:=tH hlen (s.2.getD q []++[g]);refine ⟨(pE h.1 hq ⟨f1,f3⟩).1,fun r hr=>?_,h.2.2.1,bE h.2.2.2.1 og,?_,?_⟩
  ·show (s.2.set q _).getD r []=[];rw [iP hlen,if_neg zO];exact h.2.1 r hr
  ·have e1:=h.2.2.2.2.1.app h.2.2.2.1 (bE h.2.2.1 t3) og og (Eqv.refl n [g]);refine e1.trans ?_;unfold Ai;simp only;rw [r1,r2];have e2:=(kO (s.2.drop (q+1)).flatten [g] t2 og fun x hx y hy=>by
    rw [List.mem_singleton.1 hy];obtain ⟨p',hp1,hp2,hp3⟩:=mV h.1.1 hx;obtain ⟨_,o1,_,_,u1⟩:=nw hn h hp2 hp3;exact (LF hg ha o1 (by rw [hqe,u1];simp;omega)).2).mid (p:=s.1++((s.2.take q).flatten++s.2.getD q [])) (q:=[]) (bE h.2.2.1 (bE t1 k1)) (bE t2 og) (bE og t2) (jh n)
   simp only [List.append_assoc,List.append_nil] at e2 ⊢;exact e2
  ·rw [eE,<- h.2.2.2.2.2];have:c3 [g]=0:=CJ (q:=q) fun x hx=>by rw [List.mem_singleton.1 hx];exact ⟨f1,f3⟩
   rw [this];rfl
 ·rw [if_neg ha];have hqs:∀ q ∈ tV g,q < n:=fun q hq=>of_decide_eq_true (List.all_eq_true.1 (List.all_eq_true.1 (pI hn).2 g (cS hg)) q hq)
  obtain ⟨i1,i2⟩:=tJ hn (tV g) s (fun q hq=>by have:=hqs q hq;omega) h;obtain ⟨S,hS⟩:∃ S,ct s (tV g)=S:=⟨_,rfl⟩;rw [hS] at i1 i2 ⊢;obtain ⟨_,_,t3⟩:=xH hn i1 0;refine ⟨(nu i1.1).1,i1.2.1,bE i1.2.2.1 og,bE h.2.2.2.1 og,?_,?_⟩
  ·have e1:=i1.2.2.2.2.1.app h.2.2.2.1 (bE i1.2.2.1 t3) og og (Eqv.refl n [g]);refine e1.trans ?_;unfold Ai;simp only;have e2:=(kO S.2.flatten [g] t3 og fun x hx y hy=>by
    rw [List.mem_singleton.1 hy];obtain ⟨p',hp2,hp3⟩:=tI i1.1.1 hx;obtain ⟨_,o1,a1,b1,_⟩:=nw hn i1 hp2 hp3;refine (LF o1 a1 hg fun hm=>?_).1;rw [b1] at hm;rw [i2 p' (.inl hm)] at hp3;cases hp3).mid (p:=S.1) (q:=[]) i1.2.2.1 (bE t3 og) (bE og t3) (jh n)
   simp only [List.append_assoc,List.append_nil] at e2 ⊢;exact e2
  ·show c3 (p++[g])=c3 (S.1++[g]);rw [eE,eE,i1.2.2.2.2.2]
theorem EK {n:Nat} (hn:1<=n/\n<=4):∀ (l p:List Gt) (s:iw),je n l->LW n p s->LW n (p++l) (gG l s)
 |[],p,s,_,h=>by rw [List.append_nil];exact h
 |g :: r,p,s,hl,h=>by
  have:=EK hn r (p++[g]) (qu s g) (fun x hx=>hl x (by simp [hx])) (Pv hn (hl g zI) h);rw [List.append_assoc] at this;exact this
theorem CK {n:Nat} {l:List Gt} (hn:1<=n/\n<=4) (hl:je n l):je n (aO l (n:Int))/\Eqv n l (aO l (n:Int))/\c3 (aO l (n:Int))=c3 l:=by
 have h0:LW n [] Al:=by
  refine ⟨s0R_ok.1,fun q hq=>?_,jh n,jh n,Eqv.refl n [],rfl⟩;rcases Nat.lt_or_ge q 4 with h1 | h1
  ·obtain rfl | rfl | rfl | rfl:q=0\/q=1\/q=2\/q=3:=zO
   all_goals rfl
  ·rw [List.getD_eq_getElem?_getD,List.getElem?_eq_none (by show 4<=q;exact h1)];rfl
 have h1:=EK hn l [] Al hl h0;obtain ⟨i1,i2⟩:=tJ hn [0,1,2,3] _ zI h1;have e:aO l (n:Int)=(ct (gG l Al) [0,1,2,3]).1:=by
  unfold aO;rw [if_pos]
  ·rfl
  ·exact List.all_eq_true.2 fun g hg=>hl g hg
 rw [e];have hz:(ct (gG l Al) [0,1,2,3]).2.flatten=[]:=by
  rw [List.eq_nil_iff_forall_not_mem];intro g hg;obtain ⟨p,hp,hm⟩:=tI i1.1.1 hg;rw [i2 p (.inl zJ)] at hm;cases hm
 have:=i1.2.2.2.2.1;unfold Ai at this;rw [hz,List.append_nil] at this;exact ⟨i1.2.2.1,this,i1.2.2.2.2.2.symm⟩
theorem TZ (c q:Int):c3 (cG c q)=0:=by
 unfold cG lu
 (repeat' split)<;>rfl
theorem oN (t:List (Int × Int)):∀ (r:List Gt) (p:Po) (met:List Int) (acc:List Gt),c3 (dI t p met acc r)<=c3 acc+c3 r
 |[],_,_,acc=>zR
 |g :: r,p,met,acc=>by
  have hg:c3 (g :: r)=c3 [g]+c3 r:=eE [g] r;rw [dI];split
  ·have:=oN t r (aJ p g).1 met (acc++[g]);rw [eE] at this;omega
  ·split
   ·have:=oN t r (aJ p g).1 met acc;omega
   ·have:=oN t r (aJ p g).1 (met++[(dg p.o g.a).1]) (acc++cG (cF (au t (dg p.o g.a).1) (dg p.o g.a).2) g.a);rw [eE,TZ] at this;omega
theorem LX (gs:List Gt) (n:Int):c3 (dh gs n).1<=c3 gs:=by
 unfold dh;split
 ·have:=oN (cE gs n).1.t gs (cg n) [] [];have e:c3 []=0:=rfl;simp only;omega
 ·exact zR
theorem tK (n:Int):∀ (l:List (List Gt)) (acc:List Gt) (k:Int),c3 (dn n l acc k).1<=c3 acc+c3 l.flatten
 |[],acc,k=>zR
 |s :: r,acc,k=>by
  have h1:=tK n r (acc++(dh s n).1) ((k+(dh s n).2) % 8);have h2:=LX s n;rw [eE] at h1;rw [dn,List.flatten_cons,eE];omega
def Kp (n:Nat) (l x:List Gt):Prop:=je n x/\Eqv n l x/\c3 x<=c3 l
theorem Kp.trans {n:Nat} {a b c:List Gt} (h:Kp n a b) (k:Kp n b c):Kp n a c:=⟨k.1,h.2.1.trans k.2.1,Nat.le_trans k.2.2 h.2.2⟩
theorem qZ {n:Nat} {l:List Gt} (h:je n l):Kp n l (aG l):=by
 obtain ⟨a,b,d,r⟩:=uQ l.length l h;exact ⟨a,r.eqv,b⟩
theorem EL {n:Nat} {l:List Gt} (h:je n l):Kp n l (cf l (n:Int)).1:=by
 obtain ⟨a,b,_,j,_,_,e⟩:=zj h;refine ⟨a,⟨j,fun V hV=>?_⟩,?_⟩
 ·rw [e V hV,i9,b]
 ·have:=tK (n:Int) (np l) [] 0;rw [iO] at this;have e0:c3 []=0:=rfl;unfold cf;omega
theorem tL:∀ (ws:List (List Gt)) (b:List Gt),dy ws b=b\/dy ws b ∈ ws
 |[],b=>.inl rfl
 |w :: r,b=>by
  rw [dy];rcases tL r (if aR w < aR b then w else b) with h | h
  ·rw [h];split
   ·exact .inr zI
   ·exact .inl rfl
  ·exact .inr (by simp [h])
theorem Pw {n:Nat} {l:List Gt} (hn:1<=n/\n<=4) (h:je n l):Kp n l (iE l (n:Int)):=by
 rcases tL (gv l (n:Int)) l with e | e
 ·unfold iE;rw [e];exact ⟨h,Eqv.refl n l,zR⟩
 ·unfold iE;generalize dy (gv l (n:Int)) l=x at e;unfold gv at e;rcases List.mem_append.1 e with e | e
  ·simp only [List.mem_cons,List.not_mem_nil,or_false] at e;rcases e with rfl | rfl | rfl
   ·exact qZ h
   ·exact (EL h).trans (qZ (EL h).1)
   ·obtain ⟨a,b,c⟩:=CK hn h;exact Kp.trans ⟨a,b,zO⟩ (qZ a)
  ·unfold wv at e;split at e
   ·rename_i hc;rw [List.mem_singleton.1 e,Int.toNat_natCast];simp only [Bool.and_eq_true] at hc;obtain ⟨a,b,c⟩:=Pt (l:=l) hn (fun g hg=>⟨h g hg,List.all_eq_true.1 hc.1 g hg⟩);exact Kp.trans ⟨a,b,zO⟩ (qZ a)
   ·cases e
theorem EM {n:Nat} (hn:1<=n/\n<=4):∀ (m:Nat) (l:List Gt),je n l->Kp n l (jk (n:Int) m l)/\aR (jk (n:Int) m l)<=aR l
 |0,l,h=>⟨⟨h,Eqv.refl n l,zR⟩,Int.le_refl _⟩
 |m+1,l,h=>by
  rw [jk];split
  ·exact ⟨⟨h,Eqv.refl n l,zR⟩,Int.le_refl _⟩
  ·have h1:=Pw hn h;obtain ⟨h2,h3⟩:=EM hn m _ h1.1;exact ⟨h1.trans h2,zO⟩
theorem pK (g:Gt) (r:List Gt):dK (g :: r)=(if g.k=7\/g.k=8 then 1 else 0)+dK r:=by
 have:=kg [g] r;rw [sX] at this;exact this
theorem CL:∀ l:List Gt,1000 * dK l<=aR l/\aR l<=1000 * dK l+10 * l.length
 |[]=>by simp [aR,dK,tM]
 |g :: r=>by
  have:=CL r;rw [pK,aR,List.length_cons];rcases fL g.k with ⟨h1,h⟩ | ⟨h1,h⟩ | ⟨h1,h⟩
  ·rw [if_pos h1,h];omega
  ·rw [if_neg zO,h];omega
  ·rw [if_neg zO,h];omega
theorem LY:∀ l:List Gt,(md l:Int)=2 * dK l+4 * c3 l
 |[]=>rfl
 |g :: r=>by
  have:=LY r;rw [pK];show ((wt g+md r:Nat):Int)=_+4 * (((if g.k=12 then 1 else 0)+c3 r:Nat):Int);unfold wt;by_cases h1:g.k=7\/g.k=8
  ·rw [if_pos h1,if_pos h1,if_neg zO];omega
  ·rw [if_neg h1,if_neg h1];split<;>omega
theorem Px {n:Nat} {l:List Gt} (hn:1<=n/\n<=4) (h:je n l) (h64:l.length<=64) (hq:dK l+c3 l<=11) :
  aR (qU l (n:Int))<=aR l/\dK (qU l (n:Int))<=dK l/\∃ k0 Ua Ub,nk l (qU l (n:Int)) n k0 Ua Ub:=by
 have e:qU l (n:Int)=jk (n:Int) ((aR l).toNat+1) l:=by
  unfold qU;rw [if_pos];exact List.all_eq_true.2 fun g hg=>h g hg
 obtain ⟨⟨k1,⟨k,k2⟩,k3⟩,hc⟩:=EM hn ((aR l).toNat+1) l h;rw [<- e] at k1 k2 k3 hc;have t1:=CL l;have t2:=CL (qU l (n:Int));have ht:dK (qU l (n:Int))<=dK l:=zO;have b1:=(DV l).1;have b2:=(DV (qU l (n:Int))).1;have w1:=LY l;have w2:=LY (qU l (n:Int));have lv:∀ {x:List Gt},je n x->md x<=44->∀ q r,q++r=x->Lv n 52 q:=fun {x} hx hw q r hqr=>by
  subst hqr;rw [jE] at hw;exact Tq hn (fun g hg=>hx g (by simp [hg])) zO
 have k8:k % 8 < 8:=Nat.mod_lt _ zO;refine ⟨hc,ht,k % 8,_,_,Ka hn h k1 (lv h zO) (lv k1 zO) k8 fun V hV=>?_⟩;rw [ou (show k % 8 % 8=k % 8 by omega)];exact k2 V hV
end Go.Proofs.YtmenmibfkojnoaaGreat
