/- Plain: a tableau stays valid under Cliff. -/
import Derived.Test.YtmenmibfkojnoaaGreatY12
import Derived.Test.YtmenmibfkojnoaaGreatY06
import Derived.Test.YtmenmibfkojnoaaGreatY07
import Derived.Test.YtmenmibfkojnoaaGreatY13
set_option maxHeartbeats 16000000
set_option maxRecDepth 100000
namespace Go.Proofs.YtmenmibfkojnoaaGreat
set_option linter.unusedVariables false
def sQ (a b:Nat × Nat):Nat:=(dt (a.1 &&& b.2)+dt (a.2 &&& b.1)) % 2
def xz (a:Pq):Nat × Nat:=(a.x,a.z)
theorem vD (a b:Pq):il a b=(sQ (xz a) (xz b) == 0):=rfl
def Rp:Bool:=(List.range 16).all fun a=>(List.range 16).all fun b=>(List.range 16).all fun c=>dt (a &&& (b ^^^ c)) % 2 == (dt (a &&& b)+dt (a &&& c)) % 2
theorem IE:Rp=true:=by decide +kernel
theorem qJ {a b c:Nat} (ha:a < 16) (hb:b < 16) (hc:c < 16):dt (a &&& (b ^^^ c)) % 2=(dt (a &&& b)+dt (a &&& c)) % 2:=by
 have:=List.all_eq_true.1 (List.all_eq_true.1 (List.all_eq_true.1 IE a (List.mem_range.2 ha)) b (List.mem_range.2 hb)) c (List.mem_range.2 hc);exact eq_of_beq this
theorem PT {a b:Nat} (ha:a < 16) (hb:b < 16):a ^^^ b < 16:=Nat.xor_lt_two_pow (n:=4) ha hb
def qq (a:Nat × Nat):Prop:=a.1 < 16/\a.2 < 16
theorem Dp (a b:Nat × Nat):sQ a b=sQ b a:=by
 unfold sQ;rw [Nat.and_comm a.1,Nat.and_comm a.2,Nat.add_comm]
def Rq (a b:Nat × Nat):Nat × Nat:=(a.1 ^^^ b.1,a.2 ^^^ b.2)
theorem Rr {a b t:Nat × Nat} (ha:qq a) (hb:qq b) (ht:qq t):sQ (Rq a b) t=(sQ a t+sQ b t) % 2:=by
 unfold sQ Rq;have h1:=qJ ht.2 ha.1 hb.1;have h2:=qJ ht.1 ha.2 hb.2;simp only;rw [Nat.and_comm (a.1 ^^^ b.1),Nat.and_comm (a.2 ^^^ b.2),Nat.and_comm a.1,Nat.and_comm a.2,Nat.and_comm b.1,Nat.and_comm b.2];omega
def kX:List Nat->List (Nat × Nat)->Nat × Nat
 |c :: cs,v :: vs=>if c=1 then Rq v (kX cs vs) else kX cs vs
 |_,_=>(0,0)
theorem vE:∀ (c:List Nat) (v:List (Nat × Nat)),(∀ a ∈ v,qq a)->qq (kX c v)
 |[],[],_=>⟨by show 0 < 16;decide,by show 0 < 16;decide⟩
 |[],v :: vs,_=>⟨by show 0 < 16;decide,by show 0 < 16;decide⟩
 |c :: cs,[],_=>⟨by show 0 < 16;decide,by show 0 < 16;decide⟩
 |c :: cs,v :: vs,h=>by
  have ih:=vE cs vs (fun a ha=>h a (by simp [ha]));have hv:=h v zI;rw [kX];split
  ·exact ⟨PT hv.1 ih.1,PT hv.2 ih.2⟩
  ·exact ih
def ym:List Nat->List Nat->Nat
 |c :: cs,d :: ds=>(if c=1 then d else 0)+ym cs ds
 |_,_=>0
theorem AY:∀ (c:List Nat) (v:List (Nat × Nat)) (t:Nat × Nat),(∀ a ∈ v,qq a)->qq t->sQ (kX c v) t=ym c (v.map fun a=>sQ a t) % 2
 |[],v,t,_,_=>by cases v<;>(unfold sQ kX;simp [dt,ym])
 |c :: cs,[],t,_,_=>by unfold sQ kX;simp [dt,ym]
 |c :: cs,v :: vs,t,h,ht=>by
  have ih:=AY cs vs t (fun a ha=>h a (by simp [ha])) ht;have hi:=vE cs vs (fun a ha=>h a (by simp [ha]));rw [kX,List.map_cons,ym];split
  ·rw [Rr (h v zI) hi ht,ih];omega
  ·rw [ih];omega
def pR (v:List (Nat × Nat)):List (List Nat):=v.map fun a=>v.map fun b=>sQ b a
theorem Dq (c d:List Nat) (v:List (Nat × Nat)) (h:∀ a ∈ v,qq a):sQ (kX c v) (kX d v)=ym c ((pR v).map fun r=>ym d r % 2) % 2:=by
 rw [AY c v _ h (vE d v h)];congr 2;unfold pR;rw [List.map_map];refine List.map_congr_left fun a ha=>?_
 show sQ a (kX d v)=ym d (v.map fun b=>sQ b a) % 2;rw [Dp,AY d v a h (h a ha)]
theorem Fj {c d:List Nat} {v u:List (Nat × Nat)} (hv:∀ a ∈ v,qq a) (hu:∀ a ∈ u,qq a) (h:pR v=pR u):sQ (kX c v) (kX d v)=sQ (kX c u) (kX d u):=by rw [Dq c d v hv,Dq c d u hu,h]
def IF (n:Nat) (a:Nat × Nat):List Nat:=((List.range n).map fun q=>a.1 / 2 ^ q % 2)++(List.range n).map fun q=>a.2 / 2 ^ q % 2
def IG (n:Nat):List (Nat × Nat):=((List.range n).map fun q=>xz (xQ q))++(List.range n).map fun q=>xz (zQ q)
def Fk (n:Nat) (g:Gt):List (Nat × Nat):=((List.range n).map fun q=>xz (oO g q))++(List.range n).map fun q=>xz (oW g q)
def Fl (n:Nat):List (Nat × Nat):=(List.range (2 ^ n)).flatMap fun x=>(List.range (2 ^ n)).map fun z=>(x,z)
def Gp (n:Nat):List Gt:=(bC n).filter fun g=>bh g.k
def IH (a:Nat × Nat):Bool:=decide (a.1 < 16) && decide (a.2 < 16)
def um (n:Nat) (g:Gt):Bool:=(Fk n g).all IH && (decide (pR (Fk n g)=pR (IG n)) && (Fl n).all fun a=>decide (xz (eP n g ⟨a.1,a.2,0⟩)=kX (IF n a) (Fk n g)) && (ci n (eP n g ⟨a.1,a.2,0⟩) && (kW ⟨a.1,a.2,0⟩ == kW (eP n g ⟨a.1,a.2,0⟩))))
def Rs (n:Nat):Bool:=(IG n).all IH && (Fl n).all fun a=>decide (kX (IF n a) (IG n)=a)
def pS (n:Nat):Bool:=Rs n && (Gp n).all (um n)
theorem Rt:pS 1=true:=by decide +kernel
theorem Ru:pS 2=true:=by decide +kernel
theorem Rv:pS 3=true:=by decide +kernel
theorem UD:Rs 4=true:=by decide +kernel
theorem Na:((Gp 4).take 15).all (um 4)=true:=by decide +kernel
theorem Nb:(((Gp 4).drop 15).take 15).all (um 4)=true:=by decide +kernel
theorem Nc:(((Gp 4).drop 30).take 15).all (um 4)=true:=by decide +kernel
theorem Nd:((Gp 4).drop 45).all (um 4)=true:=by decide +kernel
theorem UE {α:Type} {l:List α} {p:α->Bool} (h1:(l.take 15).all p=true) (h2:((l.drop 15).take 15).all p=true) (h3:((l.drop 30).take 15).all p=true) (h4:(l.drop 45).all p=true):l.all p=true:=by
 have e3:(l.drop 30).all p=true:=by
  rw [<- List.take_append_drop 15 (l.drop 30),List.all_append,h3,List.drop_drop,h4];rfl
 have e2:(l.drop 15).all p=true:=by
  rw [<- List.take_append_drop 15 (l.drop 15),List.all_append,h2,List.drop_drop,e3];rfl
 rw [<- List.take_append_drop 15 l,List.all_append,h1,e2];rfl
theorem Rw:pS 4=true:=by
 unfold pS;exact Bool.and_eq_true_iff.2 ⟨UD,UE Na Nb Nc Nd⟩
theorem un {n:Nat} (h:1<=n/\n<=4):pS n=true:=by
 obtain rfl | rfl | rfl | rfl:n=1\/n=2\/n=3\/n=4:=zO
 ·exact Rt
 ·exact Ru
 ·exact Rv
 ·exact Rw
def II (d:Nat) (a:Pq):Pq:=⟨a.x,a.z,(a.p+d) % 4⟩
theorem Ne (d:Nat) (a b:Pq):cn (II d a) b=II d (cn a b):=by
 unfold cn II;simp only [Pq.mk.injEq,true_and];omega
theorem yn (g:Gt) (a:Pq) (d:Nat) (o:Pq) (q:Nat):dV g a (II d o) q=II d (dV g a o q):=by
 unfold dV;simp only;split<;>split<;>simp only [Ne]
theorem yo (g:Gt) (a:Pq) (d:Nat):∀ (l:List Nat) (o:Pq),fT g a l (II d o)=II d (fT g a l o)
 |[],o=>rfl
 |q :: r,o=>by rw [fT,fT,yn,yo g a d r]
theorem yp (g:Gt) (a b:Pq) (o:Pq) (q:Nat) (h:xz a=xz b):dV g a o q=dV g b o q:=by
 unfold xz at h;injection h with h1 h2;unfold dV
 rw [h1,h2]
theorem yq (g:Gt) (a b:Pq) (h:xz a=xz b):∀ (l:List Nat) (o:Pq),fT g a l o=fT g b l o
 |[],o=>rfl
 |q :: r,o=>by rw [fT,fT,yp g a b o q h,yq g a b h r]
theorem Ng {n:Nat} {g:Gt} {a:Pq} (hp:a.p < 4):eP n g a=II a.p (eP n g ⟨a.x,a.z,0⟩):=by
 unfold eP;rw [<- yo,yq g a ⟨a.x,a.z,0⟩ rfl];congr 1;unfold II;simp only [Pq.mk.injEq,true_and];omega
theorem j5 {n:Nat} {a:Nat × Nat} (h:a.1 < 2 ^ n/\a.2 < 2 ^ n):a ∈ Fl n:=List.mem_flatMap.2 ⟨a.1,List.mem_range.2 h.1,List.mem_map.2 ⟨a.2,List.mem_range.2 h.2,rfl⟩⟩
theorem IJ {p:Prop} (h:p:=by
  unfold IH at this;simp only [Bool.and_eq_true,decide_eq_true_eq] at this;exact this):p:=h
theorem qK {n:Nat} {g:Gt} {a:Pq} (hg:bF n g=true) (hc:bh g.k=true) (ha:ci n a=true) :
  ci n (eP n g a)=true/\kW (eP n g a)=kW a/\xz (eP n g a)=kX (IF n (xz a)) (Fk n g)/\(∀ b ∈ Fk n g,qq b)/\pR (Fk n g)=pR (IG n):=by
 obtain ⟨h1,h2,h3⟩:=okQn_iff.1 ha;have hk:=un (dm hg);unfold pS at hk;simp only [Bool.and_eq_true] at hk;have h:=List.all_eq_true.1 hk.2 g (List.mem_filter.2 ⟨cS hg,hc⟩);unfold um at h;simp only [Bool.and_eq_true,decide_eq_true_eq,List.all_eq_true,beq_iff_eq] at h;obtain ⟨k1,k2,k3⟩:=h;obtain ⟨m1,m2,m3⟩:=k3 (a.x,a.z) (j5 ⟨h1,h2⟩);obtain ⟨o1,o2,o3⟩:=okQn_iff.1 m2;rw [Ng h3];refine ⟨okQn_iff.2 ⟨o1,o2,by unfold II;simp only;omega⟩,?_,m1,fun b hb=>?_,k2⟩
 ·unfold kW at m3 ⊢;unfold II;simp only at m3 ⊢;have e1:∀ u v:Nat,((u % 2 == 0)=(v % 2 == 0))->u % 2=v % 2:=by
   intro u v h;by_cases hu:u % 2=0
   ·rw [hu] at h;have:(v % 2 == 0)=true:=by rw [<- h];rfl
    have:=eq_of_beq this;omega
   ·have hu1:u % 2=1:=zO;rw [hu1] at h;have:(v % 2 == 0)=false:=by rw [<- h];rfl
    have:=ne_of_beq_false this;omega
  have:=e1 _ _ m3;congr 1;omega
 ·have:=k1 b hb;exact IJ
theorem IK {n:Nat} {g:Gt} {a b:Pq} (hg:bF n g=true) (hc:bh g.k=true) (ha:ci n a=true) (hb:ci n b=true):il (eP n g a) (eP n g b)=il a b:=by
 obtain ⟨_,_,a1,a2,a3⟩:=qK hg hc ha;obtain ⟨_,_,b1,_,_⟩:=qK hg hc hb;have hk:=un (dm hg);unfold pS Rs at hk;simp only [Bool.and_eq_true,List.all_eq_true,decide_eq_true_eq] at hk;have hbas:∀ c ∈ IG n,qq c:=fun c hc=>by
  have:=hk.1.1 c hc;exact IJ
 obtain ⟨p1,p2,_⟩:=okQn_iff.1 ha;obtain ⟨q1,q2,_⟩:=okQn_iff.1 hb;rw [vD,vD,a1,b1,Fj a2 hbas a3,hk.1.2 (xz a) (j5 ⟨p1,p2⟩),hk.1.2 (xz b) (j5 ⟨q1,q2⟩)]
theorem iB {n:Nat} {g:Gt} {r:List Pq} (hg:bF n g=true) (hc:bh g.k=true) (h:ed n r):ed n (di n g r):=by
 obtain ⟨h1,h2,h3⟩:=h;refine ⟨by unfold di;rw [List.length_map,h1],fun a ha=>?_,fun i k a b hik ha hb=>?_⟩
 ·obtain ⟨c,hm,rfl⟩:=List.mem_map.1 ha;obtain ⟨q1,q2⟩:=h2 c hm;obtain ⟨c1,c2,_⟩:=qK hg hc q1;exact ⟨c1,by rw [c2,q2]⟩
 ·unfold di at ha hb;rw [List.getElem?_map] at ha hb;cases e1:r[i]? with
  |none=>rw [e1] at ha;cases ha
  |some a' =>
   cases e2:r[k]? with
   |none=>rw [e2] at hb;cases hb
   |some b' =>
    rw [e1] at ha;rw [e2] at hb;injection ha with ha;injection hb with hb;subst ha hb
    rw [IK hg hc (h2 a' (List.mem_of_getElem? e1)).1 (h2 b' (List.mem_of_getElem? e2)).1];exact h3 i k a' b' hik e1 e2
theorem ku {n:Nat}:∀ (l:List Gt) (r:List Pq),(∀ g ∈ l,bF n g=true/\bh g.k=true)->ed n r->ed n (bH n l r)
 |[],r,_,h=>h
 |g :: l,r,hl,h=>ku l _ (fun x hx=>hl x (by simp [hx])) (iB (hl g zI).1 (hl g zI).2 h)
def UF (g:Gt):Bool:=decide (0<=g.a) && (decide (g.a < 4) && (decide (0<=g.b) && (decide (g.b < 4) && (decide (g.c=0) && (decide (aA g.k=1/\(g.k=1\/g.k=2\/g.k=3\/g.k=4\/g.k=5\/g.k=6)) || decide (aA g.k=2/\g.a ≠ g.b/\(g.k=9\/g.k=10\/g.k=11)))))))
def yr (n:Nat):Bool:=(Gp n).all fun g=>UF g && (List.range n).all fun q=>ci n (oO g q) && ci n (oW g q)
theorem Rx:yr 1=true:=by decide +kernel
theorem Ry:yr 2=true:=by decide +kernel
theorem Rz:yr 3=true:=by decide +kernel
theorem RE:yr 4=true:=by decide +kernel
theorem uo {n:Nat} (h:1<=n/\n<=4):yr n=true:=by
 obtain rfl | rfl | rfl | rfl:n=1\/n=2\/n=3\/n=4:=zO
 ·exact Rx
 ·exact Ry
 ·exact Rz
 ·exact RE
theorem yt {n q:Nat} {g:Gt} (hg:bF n g=true) (hc:bh g.k=true) (hq:q < n):ci n (oO g q)=true/\ci n (oW g q)=true:=by
 have h:=List.all_eq_true.1 (uo (dm hg)) g (List.mem_filter.2 ⟨cS hg,hc⟩);rw [Bool.and_eq_true] at h;have h2:=List.all_eq_true.1 h.2 q (List.mem_range.2 hq);rw [Bool.and_eq_true] at h2;exact h2
theorem yu {n:Nat} {g:Gt} (hg:bF n g=true) (hc:bh g.k=true):∃ A B:Nat,g=⟨g.k,A,B,0⟩/\A < 4/\B < 4/\((aA g.k=1/\(g.k=1\/g.k=2\/g.k=3\/g.k=4\/g.k=5\/g.k=6))\/(aA g.k=2/\A ≠ B/\(g.k=9\/g.k=10\/g.k=11))):=by
 have h:=List.all_eq_true.1 (uo (dm hg)) g (List.mem_filter.2 ⟨cS hg,hc⟩);rw [Bool.and_eq_true] at h;have h1:=h.1;unfold UF at h1;simp only [Bool.and_eq_true,Bool.or_eq_true,decide_eq_true_eq] at h1;obtain ⟨a0,a1,b0,b1,c0,h2⟩:=h1;obtain ⟨k,a,b,c⟩:=g;simp only at a0 a1 b0 b1 c0 h2 ⊢;refine ⟨a.toNat,b.toNat,?_,zO,zO,?_⟩
 ·rw [c0,Int.toNat_of_nonneg a0,Int.toNat_of_nonneg b0]
 ·rcases h2 with h2 | ⟨h3,h4,h5⟩
  ·exact Or.inl h2
  ·exact Or.inr ⟨h3,zO,h5⟩
theorem jw {n:Nat} {a b:Pq} (ha:ci n a=true) (hb:ci n b=true):ci n (cn a b)=true:=by
 obtain ⟨a1,a2,a3⟩:=okQn_iff.1 ha;obtain ⟨b1,b2,b3⟩:=okQn_iff.1 hb;exact okQn_iff.2 ⟨Nat.xor_lt_two_pow a1 b1,Nat.xor_lt_two_pow a2 b2,by show _ % 4 < 4;omega⟩
theorem pT {n q:Nat} {g:Gt} {a o:Pq} (hg:bF n g=true) (hc:bh g.k=true) (hq:q < n) (ho:ci n o=true):ci n (dV g a o q)=true:=by
 obtain ⟨i1,i2⟩:=yt hg hc hq;have h1:ci n (if aZ a.x q=true then cn o (oO g q) else o)=true:=by
  split
  ·exact jw ho i1
  ·exact ho
 unfold dV;simp only;split
 ·exact jw h1 i2
 ·exact h1
theorem rS {n k:Nat} (h:k < n):(List.range n).drop k=k :: (List.range n).drop (k+1):=by
 rw [ax (l:=List.range n) (k:=k) (by simpa using h)];simp
open Go.RowKit
def CB (w:World) (n:Nat) (a:Pq) (g:Gt) (O:Nat) (o:Pq) (wx:World):Prop :=
 QB w w.heap.size n a wx/\Bx wx (w.heap.size+1) 39 #[g.k,g.a,g.b,g.c]/\Bx wx (w.heap.size+1+1) 151 #[(0:Int),(0:Int),(0:Int),(0:Int)]/\Bx wx O 151 #[n,o.x,o.z,o.p]/\w.heap.size+1+1 < O
section
variable {w wx w':World} {n O:Nat} {a o:Pq} {g:Gt}
theorem CB.below (h:CB w n a g O o wx) (hb:Below wx wx w'):CB w n a g O o w':=⟨h.1.below hb,h.2.1.below hb,h.2.2.1.below hb,h.2.2.2.1.below hb,h.2.2.2.2⟩
theorem CB.alloc (h:CB w n a g O o wx) (u:Obj):CB w n a g O o (wx.alloc u):=h.below ((zW).alloc zR _)
theorem CB.drew (h:CB w n a g O o wx):CB w n a g O o wx.drew:=h.below (zW).drew
theorem CB.set (h:CB w n a g O o wx) (b:Pq):CB w n a g O b (S4 wx O (.int .i64 (n:Nat)) (.int .i64 (b.x:Nat)) (.int .i64 (b.z:Nat)) (.int .i64 (b.p:Nat))):=by
 have hO:=h.2.2.2.2;exact ⟨h.1.set4 zO zO _ _ _ _,h.2.1.far4 zO _ _ _ _,h.2.2.1.far4 zO _ _ _ _,h.2.2.2.1.set4 _ _ _ _,hO⟩
theorem CB.gcells (h:CB w n a g O o wx):wx.cell? ⟨w.heap.size+1,0,none⟩=some (.int .i64 g.k)/\wx.cell? ⟨w.heap.size+1,1,none⟩=some (.int .i64 g.a)/\wx.cell? ⟨w.heap.size+1,2,none⟩=some (.int .i64 g.b)/\wx.cell? ⟨w.heap.size+1,3,none⟩=some (.int .i64 g.c):=⟨h.2.1.cell 0,h.2.1.cell 1,h.2.1.cell 2,h.2.1.cell 3⟩
end
theorem rT {n:Nat} {g:Gt} {a c:Pq} (hc:eP n g a=c):fT g a ((List.range n).drop 0) ⟨0,0,a.p⟩=c:=hc
theorem uq {n k:Nat} {g:Gt} {a o c:Pq} (hk:k < n) (h:fT g a ((List.range n).drop k) o=c):fT g a ((List.range n).drop (k+1)) (dV g a o k)=c:=by
 rw [rS hk] at h;exact h
theorem yv {n:Nat} {g:Gt} {a o c:Pq} (h:fT g a ((List.range n).drop n) o=c):o=c:=by
 rw [List.drop_eq_nil_of_le zI] at h;exact h
theorem IL {p:Prop} (h:p:=by
  rintro e w6 ⟨rfl,b6⟩;have Bw6:=zH ((B5.below b6).set o2);obtain ⟨q0',q1',q2',q3',q4',q5',q6',q7'⟩:=(B5.below b6).2.2.2.1.four;obtain ⟨p0',p1',p2',p3'⟩:=Bw6.out.1.cells;clear b6 B5 p0 p1 p2 p3 q0 q1 q2 q3 x0 x1 x2 x3;go_wp2_with fail;go_roundg (gk - 1)
  all_goals first
   |omega
   |exact ⟨k+1,o2,zO,by go_num,NO.out,NX.out,Bw6.out⟩):p:=h
theorem Fm (n:Nat) (a c:Pq) (g:Gt) (w:World) (hn:1<=n/\n<=4) (ha:ci n a=true) (hg:bF n g=true) (hcl:bh g.k=true) (hc:eP n g a=c):Calls Tryz.prog 156 #[.agg #[n,a.x,a.z,a.p],.agg #[g.k,g.a,g.b,g.c]] w fun e w'=>e=.returned (.tuple #[.agg #[n,c.x,c.z,c.p],.bool true])/\Below w w w':=by
 obtain ⟨A,B,eg,hA,hB,hsh⟩:=yu hg hcl;obtain ⟨kd,ga,gb,gc⟩:=g;simp only at eg hsh hcl;simp only [Gt.mk.injEq,true_and] at eg;obtain ⟨rfl,rfl,rfl⟩:=eg;have HA:=zH ha;have HG:=zH hg;have HG2:=zH (show fJ kd (A:Int) (B:Int) 0 (n:Int)=true from hg);have HL:=zH hcl;have HC:=zH (rT hc);have HS:=zH hsh;have okp:=zH (show ci n ⟨0,0,a.p⟩=true from okQn_iff.2 ⟨Nat.pow_pos zO,Nat.pow_pos zO,(okQn_iff.1 ha).2.2⟩);have hx4:=(bI hn.2 ha).1;have hz4:=(bI hn.2 ha).2.1;have X0:=zH (show QB w w.heap.size n a (((w.alloc (.cells #[n,a.x,a.z,a.p] 151)).alloc (.cells #[kd,A,B,(0:Int)] 39)).alloc ZO.zQ) from ⟨((Bx.new w _ _).alloc _).alloc _,(((zW).alloc zR _).alloc zI _).alloc zS _,zR⟩);have G0:=zH (show Bx (((w.alloc (.cells #[n,a.x,a.z,a.p] 151)).alloc (.cells #[kd,A,B,(0:Int)] 39)).alloc ZO.zQ) (w.heap.size+1) 39 #[kd,A,B,(0:Int)] from (Bx.new' zI).alloc _)
 have R0:=zH (show Bx (((w.alloc (.cells #[n,a.x,a.z,a.p] 151)).alloc (.cells #[kd,A,B,(0:Int)] 39)).alloc ZO.zQ) (w.heap.size+1+1) 151 #[(0:Int),(0:Int),(0:Int),(0:Int)] from Bx.new' zI);clear ha hg hcl hc hsh;go_enter Tryz.func156,Tryz.ntmps156;go_wp2_with fail;refine (nL n a _ hn HA).mono ?_;rintro e w1 ⟨rfl,b1⟩;have X1:=zH (X0.below b1);have G1:=zH (G0.below b1);have R1:=zH (R0.below b1);clear b1 X0 G0 R0;obtain ⟨p0,p1,p2,p3⟩:=X1.cells;obtain ⟨g0,g1,g2,g3,_⟩:=G1.four;go_wp2_with fail;refine (bZ _ _ _ _ _ _).mono ?_;rintro e w2 ⟨rfl,b2⟩;rw [HG2.out];have X2:=zH (X1.below b2);have G2:=zH (G1.below b2);have R2:=zH (R1.below b2);clear b2 X1 G1 R1 p0 p1 p2 p3 g0 g1 g2 g3;obtain ⟨g0,g1,g2,g3,_⟩:=G2.four;go_wp2_with fail;refine (kr _ _ _ _ _).mono ?_;rintro e w3 ⟨rfl,b3⟩;rw [HL.out]
 have B0:=zH (show CB w n a ⟨kd,A,B,0⟩ w3.heap.size ⟨0,0,a.p⟩ (w3.alloc (.cells #[n,(0:Int),(0:Int),a.p] 151)) from ⟨(X2.below b3).alloc _,(G2.below b3).alloc _,(R2.below b3).alloc _,Bx.new _ _ _,(R2.below b3).lt⟩);obtain ⟨p0,p1,p2,p3⟩:=(X2.below b3).cells;clear b3 X2 G2 R2 g0 g1 g2 g3;go_wp2_with fail;go_loopg [7] n (fun r i wr=>∃ (k:Nat) (o:Pq),k+r=n/\i=.int .i64 k/\ci n o=true/\fT ⟨kd,A,B,0⟩ a ((List.range n).drop k) o=c/\CB w n a ⟨kd,A,B,0⟩ w3.heap.size o wr)
 case atStart=>exact ⟨0,⟨0,0,a.p⟩,zO,rfl,okp.out,HC.out,B0.out⟩
 case round =>
  clear B0 HC okp p0 p1 p2 p3;obtain ⟨k,o,hk,rfl,ho,he,hB⟩:=hrel;have HO:=zH ho;have HE:=zH he;have HB:=zH hB;clear ho he hB;obtain ⟨p0,p1,p2,p3⟩:=HB.out.1.cells;obtain ⟨g0,g1,g2,g3⟩:=HB.gcells;by_cases hlt:k < n
  ·obtain ⟨cx,hcx⟩:∃ c,oO ⟨kd,A,B,0⟩ k=c:=⟨_,rfl⟩;obtain ⟨cz,hcz⟩:∃ c,oW ⟨kd,A,B,0⟩ k=c:=⟨_,rfl⟩;have okx:=zH (show ci n cx=true from hcx ▸ (yt HG.out HL.out hlt).1);have okz:=zH (show ci n cz=true from hcz ▸ (yt HG.out HL.out hlt).2);have MI:=fun w=>HH n k A B kd w zO hA hB HS.out
   simp only [hcx,hcz] at MI;have NX:=zH (uq hlt HE);have NO:=zH (pT (a:=a) HG HL hlt HO);obtain ⟨o2,ho2⟩:∃ o2,dV ⟨kd,A,B,0⟩ a o k=o2:=⟨_,rfl⟩;have HS2:=zH (show o2=(if aZ a.z k=true then cn (if aZ a.x k=true then cn o cx else o) cz else (if aZ a.x k=true then cn o cx else o)) by rw [<- ho2,<- hcx,<- hcz];rfl);rw [ho2] at NX NO;have BX:=qp hx4 (show k < 4 by omega);have BZ:=qp hz4 (show k < 4 by omega);clear ho2 hcx hcz HE;go_wp2_with fail;refine (MI _).mono ?_;rintro e w5 ⟨rfl,b5⟩;have B5:=zH (((HB.below b5).alloc (.cells #[n,cx.x,cx.z,cx.p] 151)).alloc (.cells #[n,cz.x,cz.z,cz.p] 151));have X5:=zH ((Bx.new w5 151 #[n,cx.x,cx.z,cx.p]).alloc (.cells #[n,cz.x,cz.z,cz.p] 151));have Z5:=zH (show Bx ((w5.alloc (.cells #[n,cx.x,cx.z,cx.p] 151)).alloc (.cells #[n,cz.x,cz.z,cz.p] 151)) (w5.heap.size+1) 151 #[n,cz.x,cz.z,cz.p] from Bx.new' zI)
   have n5:w3.heap.size < w5.heap.size:=(HB.below b5).2.2.2.1.lt;clear b5 HB MI p0 p1 p2 p3 g0 g1 g2 g3;obtain ⟨p0,p1,p2,p3⟩:=B5.out.1.cells;cases hx:aZ a.x k
   ·cases hz:aZ a.z k
    ·obtain rfl:o2=o:=by rw [HS2.out,hx,hz];rfl
     go_wp2_with fail;go_roundg (gk - 1)
     all_goals first
      |omega
      |exact ⟨k+1,o2,zO,by go_num,NO.out,NX.out,B5.out⟩
    ·have HM:=zH (show cn o cz=o2 by rw [HS2.out,hx,hz];rfl);obtain ⟨q0,q1,q2,q3,_⟩:=B5.out.2.2.2.1.four;obtain ⟨x0,x1,x2,x3,_⟩:=Z5.four;go_wp2_with fail;refine (gW n o cz o2 _ hn HO okz HM).mono ?_;exact IL
   ·cases hz:aZ a.z k
    ·have HM:=zH (show cn o cx=o2 by rw [HS2.out,hx,hz];rfl);obtain ⟨q0,q1,q2,q3,_⟩:=B5.out.2.2.2.1.four;obtain ⟨x0,x1,x2,x3,_⟩:=X5.four;go_wp2_with fail;refine (gW n o cx o2 _ hn HO okx HM).mono ?_;exact IL
    ·obtain ⟨om,hom⟩:∃ m,cn o cx=m:=⟨_,rfl⟩;have OM:=zH (jw HO okx);rw [hom] at OM;have HM:=zH hom;have HM2:=zH (show cn om cz=o2 by rw [HS2.out,hx,hz,<- hom];rfl);clear hom;obtain ⟨q0,q1,q2,q3,_⟩:=B5.out.2.2.2.1.four;obtain ⟨x0,x1,x2,x3,_⟩:=X5.four;go_wp2_with fail;refine (gW n o cx om _ hn HO okx HM).mono ?_;rintro e w6 ⟨rfl,b6⟩;have Bw6:=zH ((B5.below b6).set om);have Zw6:=zH ((Z5.below b6).far4 (show w5.heap.size+1 ≠ w3.heap.size by omega) (.int .i64 (n:Nat)) (.int .i64 (om.x:Nat)) (.int .i64 (om.z:Nat)) (.int .i64 (om.p:Nat)));obtain ⟨q0',q1',q2',q3',q4',q5',q6',q7'⟩:=(B5.below b6).2.2.2.1.four;obtain ⟨p0',p1',p2',p3'⟩:=Bw6.out.1.cells;clear b6 B5 p0 p1 p2 p3 q0 q1 q2 q3 x0 x1 x2 x3;obtain ⟨p0,p1,p2,p3⟩:=Bw6.out.1.cells;obtain ⟨q0,q1,q2,q3,_⟩:=Bw6.out.2.2.2.1.four;obtain ⟨x0,x1,x2,x3,_⟩:=Zw6.four;go_wp2_with fail;refine (gW n om cz o2 _ hn OM okz HM2).mono ?_
     rintro e w7 ⟨rfl,b6⟩;have Bw7:=zH ((Bw6.below b6).set o2);obtain ⟨q0'',q1'',q2'',q3'',q4',q5',q6',q7'⟩:=(Bw6.below b6).2.2.2.1.four;obtain ⟨p0',p1',p2',p3'⟩:=Bw7.out.1.cells;clear b6 Bw6 p0 p1 p2 p3 q0 q1 q2 q3 x0 x1 x2 x3;go_wp2_with fail;go_roundg (gk - 1)
     all_goals first
      |omega
      |exact ⟨k+1,o2,zO,by go_num,NO.out,NX.out,Bw7.out⟩
  ·obtain rfl:k=n:=zO;obtain rfl:=yv HE.out;obtain ⟨o0,o1,o2,o3,_⟩:=HB.out.2.2.2.1.four;obtain ⟨r0,r1,r2,r3,r4,r5,r6,r7⟩:=HB.out.2.2.1.four;go_wp2_with fail;have RB:=HB.out.2.2.1
   with_reducible refine dY RB ?_ ?_ ⟨rfl,?_⟩
   ·intro wS z0 z1 z2 z3;simp [results,Tryz.results156,go_sem,z0,z1,z2,z3]
   ·rfl
   ·exact cI HB.out.1.2.1 zO _ _ _ _
end Go.Proofs.YtmenmibfkojnoaaGreat
