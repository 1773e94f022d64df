/- Plain: a tableau stays valid under Clifford gates. No program in sight; nothing is asked. Plain: images of Clifford gates are valid operators; what a Clifford gate looks like. No program in sight; nothing is asked. -/
import Derived.Test.YtmenmibfkojnoaaGreatV05
import Derived.Test.YtmenmibfkojnoaaGreatV11
set_option maxHeartbeats 16000000
namespace Go.Proofs.YtmenmibfkojnoaaGreat
set_option linter.unusedVariables false
def sQ (a b:Nat × Nat):Nat:=(popQ (a.1 &&& b.2)+popQ (a.2 &&& b.1)) % 2
def xz (a:Pq):Nat × Nat:=(a.x,a.z)
theorem comQ_s (a b:Pq):comQ a b=(sQ (xz a) (xz b) == 0):=rfl
def chkPar:Bool:=(List.range 16).all fun a=>(List.range 16).all fun b=>(List.range 16).all fun c=>popQ (a &&& (b ^^^ c)) % 2 == (popQ (a &&& b)+popQ (a &&& c)) % 2
theorem chkPar_t:chkPar=true:=by decide +kernel
theorem par_add {a b c:Nat} (ha:a < 16) (hb:b < 16) (hc:c < 16):popQ (a &&& (b ^^^ c)) % 2=(popQ (a &&& b)+popQ (a &&& c)) % 2:=by
 have:=List.all_eq_true.1 (List.all_eq_true.1 (List.all_eq_true.1 chkPar_t a (List.mem_range.2 ha)) b (List.mem_range.2 hb)) c (List.mem_range.2 hc)
 exact eq_of_beq this
theorem xor16 {a b:Nat} (ha:a < 16) (hb:b < 16):a ^^^ b < 16:=Nat.xor_lt_two_pow (n:=4) ha hb
def In16 (a:Nat × Nat):Prop:=a.1 < 16/\a.2 < 16
theorem sQ_symm (a b:Nat × Nat):sQ a b=sQ b a:=by
 unfold sQ
 rw [Nat.and_comm a.1,Nat.and_comm a.2,Nat.add_comm]
def addX (a b:Nat × Nat):Nat × Nat:=(a.1 ^^^ b.1,a.2 ^^^ b.2)
theorem sQ_add {a b t:Nat × Nat} (ha:In16 a) (hb:In16 b) (ht:In16 t):sQ (addX a b) t=(sQ a t+sQ b t) % 2:=by
 unfold sQ addX
 have h1:=par_add ht.2 ha.1 hb.1
 have h2:=par_add ht.1 ha.2 hb.2
 simp only
 rw [Nat.and_comm (a.1 ^^^ b.1),Nat.and_comm (a.2 ^^^ b.2),Nat.and_comm a.1,Nat.and_comm a.2,Nat.and_comm b.1,Nat.and_comm b.2]
 omega
def linX:List Nat->List (Nat × Nat)->Nat × Nat
 |c :: cs,v :: vs=>if c=1 then addX v (linX cs vs) else linX cs vs
 |_,_=>(0,0)
theorem linX_in:∀ (c:List Nat) (v:List (Nat × Nat)),(∀ a ∈ v,In16 a)->In16 (linX c v)
 |[],[],_=>⟨by show 0 < 16;decide,by show 0 < 16;decide⟩
 |[],v :: vs,_=>⟨by show 0 < 16;decide,by show 0 < 16;decide⟩
 |c :: cs,[],_=>⟨by show 0 < 16;decide,by show 0 < 16;decide⟩
 |c :: cs,v :: vs,h=>by
  have ih:=linX_in cs vs (fun a ha=>h a (by simp [ha]))
  have hv:=h v (by simp)
  rw [linX]
  split
  ·exact ⟨xor16 hv.1 ih.1,xor16 hv.2 ih.2⟩
  ·exact ih
def dotN:List Nat->List Nat->Nat
 |c :: cs,d :: ds=>(if c=1 then d else 0)+dotN cs ds
 |_,_=>0
theorem sQ_lin:∀ (c:List Nat) (v:List (Nat × Nat)) (t:Nat × Nat),(∀ a ∈ v,In16 a)->In16 t->sQ (linX c v) t=dotN c (v.map fun a=>sQ a t) % 2
 |[],v,t,_,_=>by cases v<;>(unfold sQ linX;simp [popQ,dotN])
 |c :: cs,[],t,_,_=>by unfold sQ linX;simp [popQ,dotN]
 |c :: cs,v :: vs,t,h,ht=>by
  have ih:=sQ_lin cs vs t (fun a ha=>h a (by simp [ha])) ht
  have hi:=linX_in cs vs (fun a ha=>h a (by simp [ha]))
  rw [linX,List.map_cons,dotN]
  split
  ·rw [sQ_add (h v (by simp)) hi ht,ih];omega
  ·rw [ih];omega
def gramX (v:List (Nat × Nat)):List (List Nat):=v.map fun a=>v.map fun b=>sQ b a
theorem sQ_gram (c d:List Nat) (v:List (Nat × Nat)) (h:∀ a ∈ v,In16 a):sQ (linX c v) (linX d v)=dotN c ((gramX v).map fun r=>dotN d r % 2) % 2:=by
 rw [sQ_lin c v _ h (linX_in d v h)]
 congr 2
 unfold gramX
 rw [List.map_map]
 refine List.map_congr_left fun a ha=>?_
 show sQ a (linX d v)=dotN d (v.map fun b=>sQ b a) % 2
 rw [sQ_symm,sQ_lin d v a h (h a ha)]
theorem gram_same {c d:List Nat} {v u:List (Nat × Nat)} (hv:∀ a ∈ v,In16 a) (hu:∀ a ∈ u,In16 a) (h:gramX v=gramX u):sQ (linX c v) (linX d v)=sQ (linX c u) (linX d u):=by rw [sQ_gram c d v hv,sQ_gram c d u hu,h]
def bitsX (n:Nat) (a:Nat × Nat):List Nat:=((List.range n).map fun q=>a.1 / 2 ^ q % 2)++(List.range n).map fun q=>a.2 / 2 ^ q % 2
def basX (n:Nat):List (Nat × Nat):=((List.range n).map fun q=>xz (xQ q))++(List.range n).map fun q=>xz (zQ q)
def imsX (n:Nat) (g:Gt):List (Nat × Nat):=((List.range n).map fun q=>xz (imX g q))++(List.range n).map fun q=>xz (imZ g q)
def allX (n:Nat):List (Nat × Nat):=(List.range (2 ^ n)).flatMap fun x=>(List.range (2 ^ n)).map fun z=>(x,z)
def clN (n:Nat):List Gt:=(gatesN n).filter fun g=>cliff g.k
def in16B (a:Nat × Nat):Bool:=decide (a.1 < 16) && decide (a.2 < 16)
def chkC1 (n:Nat) (g:Gt):Bool:=(imsX n g).all in16B && (decide (gramX (imsX n g)=gramX (basX n)) && (allX n).all fun a=>decide (xz (conjQ n g ⟨a.1,a.2,0⟩)=linX (bitsX n a) (imsX n g)) && (okQn n (conjQ n g ⟨a.1,a.2,0⟩) && (herQ ⟨a.1,a.2,0⟩ == herQ (conjQ n g ⟨a.1,a.2,0⟩))))
def chkB (n:Nat):Bool:=(basX n).all in16B && (allX n).all fun a=>decide (linX (bitsX n a) (basX n)=a)
def chkCj (n:Nat):Bool:=chkB n && (clN n).all (chkC1 n)
theorem chkCj1:chkCj 1=true:=by decide +kernel
theorem chkCj2:chkCj 2=true:=by decide +kernel
theorem chkCj3:chkCj 3=true:=by decide +kernel
theorem chkB4:chkB 4=true:=by decide +kernel
theorem chkCj4a:((clN 4).take 15).all (chkC1 4)=true:=by decide +kernel
theorem chkCj4b:(((clN 4).drop 15).take 15).all (chkC1 4)=true:=by decide +kernel
theorem chkCj4c:(((clN 4).drop 30).take 15).all (chkC1 4)=true:=by decide +kernel
theorem chkCj4d:((clN 4).drop 45).all (chkC1 4)=true:=by decide +kernel
theorem all_4 {α:Type} {l:List α} {p:α->Bool} (h1:(l.take 15).all p=true) (h2:((l.drop 15).take 15).all p=true) (h3:((l.drop 30).take 15).all p=true) (h4:(l.drop 45).all p=true):l.all p=true:=by
 have e3:(l.drop 30).all p=true:=by
  rw [<- List.take_append_drop 15 (l.drop 30),List.all_append,h3,List.drop_drop,h4];rfl
 have e2:(l.drop 15).all p=true:=by
  rw [<- List.take_append_drop 15 (l.drop 15),List.all_append,h2,List.drop_drop,e3];rfl
 rw [<- List.take_append_drop 15 l,List.all_append,h1,e2];rfl
theorem chkCj4:chkCj 4=true:=by
 unfold chkCj
 exact Bool.and_eq_true_iff.2 ⟨chkB4,all_4 chkCj4a chkCj4b chkCj4c chkCj4d⟩
theorem chkCj_all {n:Nat} (h:1<=n/\n<=4):chkCj n=true:=by
 obtain rfl | rfl | rfl | rfl:n=1 ∨ n=2 ∨ n=3 ∨ n=4:=by omega
 ·exact chkCj1
 ·exact chkCj2
 ·exact chkCj3
 ·exact chkCj4
def phQ (d:Nat) (a:Pq):Pq:=⟨a.x,a.z,(a.p+d) % 4⟩
theorem mulQ_ph (d:Nat) (a b:Pq):mulQ (phQ d a) b=phQ d (mulQ a b):=by
 unfold mulQ phQ
 simp only [Pq.mk.injEq,true_and]
 omega
theorem conjStep_ph (g:Gt) (a:Pq) (d:Nat) (o:Pq) (q:Nat):conjStep g a (phQ d o) q=phQ d (conjStep g a o q):=by
 unfold conjStep
 simp only
 split<;>split<;>simp only [mulQ_ph]
theorem conjL_ph (g:Gt) (a:Pq) (d:Nat):∀ (l:List Nat) (o:Pq),conjL g a l (phQ d o)=phQ d (conjL g a l o)
 |[],o=>rfl
 |q :: r,o=>by rw [conjL,conjL,conjStep_ph,conjL_ph g a d r]
theorem conjStep_xz (g:Gt) (a b:Pq) (o:Pq) (q:Nat) (h:xz a=xz b):conjStep g a o q=conjStep g b o q:=by
 unfold xz at h
 injection h with h1 h2
 unfold conjStep
 rw [h1,h2]
theorem conjL_xz (g:Gt) (a b:Pq) (h:xz a=xz b):∀ (l:List Nat) (o:Pq),conjL g a l o=conjL g b l o
 |[],o=>rfl
 |q :: r,o=>by rw [conjL,conjL,conjStep_xz g a b o q h,conjL_xz g a b h r]
theorem conjQ_0 {n:Nat} {g:Gt} {a:Pq} (hp:a.p < 4):conjQ n g a=phQ a.p (conjQ n g ⟨a.x,a.z,0⟩):=by
 unfold conjQ
 rw [<- conjL_ph,conjL_xz g a ⟨a.x,a.z,0⟩ rfl]
 congr 1
 unfold phQ
 simp only [Pq.mk.injEq,true_and]
 omega
theorem mem_allX {n:Nat} {a:Nat × Nat} (h:a.1 < 2 ^ n/\a.2 < 2 ^ n):a ∈ allX n:=List.mem_flatMap.2 ⟨a.1,List.mem_range.2 h.1,List.mem_map.2 ⟨a.2,List.mem_range.2 h.2,rfl⟩⟩
theorem conj_at {n:Nat} {g:Gt} {a:Pq} (hg:okN n g=true) (hc:cliff g.k=true) (ha:okQn n a=true) :
  okQn n (conjQ n g a)=true/\herQ (conjQ n g a)=herQ a/\xz (conjQ n g a)=linX (bitsX n (xz a)) (imsX n g)/\(∀ b ∈ imsX n g,In16 b)/\gramX (imsX n g)=gramX (basX n):=by
 obtain ⟨h1,h2,h3⟩:=okQn_iff.1 ha
 have hk:=chkCj_all (okN_in hg)
 unfold chkCj at hk
 simp only [Bool.and_eq_true] at hk
 have h:=List.all_eq_true.1 hk.2 g (List.mem_filter.2 ⟨okN_mem hg,hc⟩)
 unfold chkC1 at h
 simp only [Bool.and_eq_true,decide_eq_true_eq,List.all_eq_true,beq_iff_eq] at h
 obtain ⟨k1,k2,k3⟩:=h
 obtain ⟨m1,m2,m3⟩:=k3 (a.x,a.z) (mem_allX ⟨h1,h2⟩)
 obtain ⟨o1,o2,o3⟩:=okQn_iff.1 m2
 rw [conjQ_0 h3]
 refine ⟨okQn_iff.2 ⟨o1,o2,by unfold phQ;simp only;omega⟩,?_,m1,fun b hb=>?_,k2⟩
 ·unfold herQ at m3 ⊢
  unfold phQ
  simp only at m3 ⊢
  have e1:∀ u v:Nat,((u % 2 == 0)=(v % 2 == 0))->u % 2=v % 2:=by
   intro u v h
   by_cases hu:u % 2=0
   ·rw [hu] at h
    have:(v % 2 == 0)=true:=by rw [<- h];rfl
    have:=eq_of_beq this
    omega
   ·have hu1:u % 2=1:=by omega
    rw [hu1] at h
    have:(v % 2 == 0)=false:=by rw [<- h];rfl
    have:=ne_of_beq_false this
    omega
  have:=e1 _ _ m3
  congr 1
  omega
 ·have:=k1 b hb
  unfold in16B at this
  simp only [Bool.and_eq_true,decide_eq_true_eq] at this
  exact this
theorem conj_com {n:Nat} {g:Gt} {a b:Pq} (hg:okN n g=true) (hc:cliff g.k=true) (ha:okQn n a=true) (hb:okQn n b=true):comQ (conjQ n g a) (conjQ n g b)=comQ a b:=by
 obtain ⟨_,_,a1,a2,a3⟩:=conj_at hg hc ha
 obtain ⟨_,_,b1,_,_⟩:=conj_at hg hc hb
 have hk:=chkCj_all (okN_in hg)
 unfold chkCj chkB at hk
 simp only [Bool.and_eq_true,List.all_eq_true,decide_eq_true_eq] at hk
 have hbas:∀ c ∈ basX n,In16 c:=fun c hc=>by
  have:=hk.1.1 c hc
  unfold in16B at this
  simp only [Bool.and_eq_true,decide_eq_true_eq] at this
  exact this
 obtain ⟨p1,p2,_⟩:=okQn_iff.1 ha
 obtain ⟨q1,q2,_⟩:=okQn_iff.1 hb
 rw [comQ_s,comQ_s,a1,b1,gram_same a2 hbas a3,hk.1.2 (xz a) (mem_allX ⟨p1,p2⟩),hk.1.2 (xz b) (mem_allX ⟨q1,q2⟩)]
theorem appT_ok {n:Nat} {g:Gt} {r:List Pq} (hg:okN n g=true) (hc:cliff g.k=true) (h:okT n r):okT n (appT n g r):=by
 obtain ⟨h1,h2,h3⟩:=h
 refine ⟨by unfold appT;rw [List.length_map,h1],fun a ha=>?_,fun i k a b hik ha hb=>?_⟩
 ·obtain ⟨c,hm,rfl⟩:=List.mem_map.1 ha
  obtain ⟨q1,q2⟩:=h2 c hm
  obtain ⟨c1,c2,_⟩:=conj_at hg hc q1
  exact ⟨c1,by rw [c2,q2]⟩
 ·unfold appT at ha hb
  rw [List.getElem?_map] at ha hb
  cases e1:r[i]? with
  |none=>rw [e1] at ha;cases ha
  |some a' =>
   cases e2:r[k]? with
   |none=>rw [e2] at hb;cases hb
   |some b' =>
    rw [e1] at ha
    rw [e2] at hb
    injection ha with ha
    injection hb with hb
    subst ha hb
    rw [conj_com hg hc (h2 a' (List.mem_of_getElem? e1)).1 (h2 b' (List.mem_of_getElem? e2)).1]
    exact h3 i k a' b' hik e1 e2
theorem runT_ok {n:Nat}:∀ (l:List Gt) (r:List Pq),(∀ g ∈ l,okN n g=true/\cliff g.k=true)->okT n r->okT n (runT n l r)
 |[],r,_,h=>h
 |g :: l,r,hl,h=>runT_ok l _ (fun x hx=>hl x (by simp [hx])) (appT_ok (hl g (by simp)).1 (hl g (by simp)).2 h)
def shp1 (g:Gt):Bool:=decide (0<=g.a) && (decide (g.a < 4) && (decide (0<=g.b) && (decide (g.b < 4) && (decide (g.c=0) && (decide (arity g.k=1/\(g.k=1 ∨ g.k=2 ∨ g.k=3 ∨ g.k=4 ∨ g.k=5 ∨ g.k=6)) || decide (arity g.k=2/\g.a ≠ g.b/\(g.k=9 ∨ g.k=10 ∨ g.k=11)))))))
def chkIm (n:Nat):Bool:=(clN n).all fun g=>shp1 g && (List.range n).all fun q=>okQn n (imX g q) && okQn n (imZ g q)
theorem chkIm1:chkIm 1=true:=by decide +kernel
theorem chkIm2:chkIm 2=true:=by decide +kernel
theorem chkIm3:chkIm 3=true:=by decide +kernel
theorem chkIm4:chkIm 4=true:=by decide +kernel
theorem chkIm_all {n:Nat} (h:1<=n/\n<=4):chkIm n=true:=by
 obtain rfl | rfl | rfl | rfl:n=1 ∨ n=2 ∨ n=3 ∨ n=4:=by omega
 ·exact chkIm1
 ·exact chkIm2
 ·exact chkIm3
 ·exact chkIm4
theorem im_ok {n q:Nat} {g:Gt} (hg:okN n g=true) (hc:cliff g.k=true) (hq:q < n):okQn n (imX g q)=true/\okQn n (imZ g q)=true:=by
 have h:=List.all_eq_true.1 (chkIm_all (okN_in hg)) g (List.mem_filter.2 ⟨okN_mem hg,hc⟩)
 rw [Bool.and_eq_true] at h
 have h2:=List.all_eq_true.1 h.2 q (List.mem_range.2 hq)
 rw [Bool.and_eq_true] at h2
 exact h2
theorem cl_shape {n:Nat} {g:Gt} (hg:okN n g=true) (hc:cliff g.k=true):∃ A B:Nat,g=⟨g.k,A,B,0⟩/\A < 4/\B < 4/\((arity g.k=1/\(g.k=1 ∨ g.k=2 ∨ g.k=3 ∨ g.k=4 ∨ g.k=5 ∨ g.k=6)) ∨ (arity g.k=2/\A ≠ B/\(g.k=9 ∨ g.k=10 ∨ g.k=11))):=by
 have h:=List.all_eq_true.1 (chkIm_all (okN_in hg)) g (List.mem_filter.2 ⟨okN_mem hg,hc⟩)
 rw [Bool.and_eq_true] at h
 have h1:=h.1
 unfold shp1 at h1
 simp only [Bool.and_eq_true,Bool.or_eq_true,decide_eq_true_eq] at h1
 obtain ⟨a0,a1,b0,b1,c0,h2⟩:=h1
 obtain ⟨k,a,b,c⟩:=g
 simp only at a0 a1 b0 b1 c0 h2 ⊢
 refine ⟨a.toNat,b.toNat,?_,by omega,by omega,?_⟩
 ·rw [c0,Int.toNat_of_nonneg a0,Int.toNat_of_nonneg b0]
 ·rcases h2 with h2 | ⟨h3,h4,h5⟩
  ·exact Or.inl h2
  ·exact Or.inr ⟨h3,by omega,h5⟩
theorem mulQ_ok {n:Nat} {a b:Pq} (ha:okQn n a=true) (hb:okQn n b=true):okQn n (mulQ a b)=true:=by
 obtain ⟨a1,a2,a3⟩:=okQn_iff.1 ha
 obtain ⟨b1,b2,b3⟩:=okQn_iff.1 hb
 exact okQn_iff.2 ⟨Nat.xor_lt_two_pow a1 b1,Nat.xor_lt_two_pow a2 b2,by show _ % 4 < 4;omega⟩
theorem conjStep_ok {n q:Nat} {g:Gt} {a o:Pq} (hg:okN n g=true) (hc:cliff g.k=true) (hq:q < n) (ho:okQn n o=true):okQn n (conjStep g a o q)=true:=by
 obtain ⟨i1,i2⟩:=im_ok hg hc hq
 have h1:okQn n (if bitB a.x q=true then mulQ o (imX g q) else o)=true:=by
  split
  ·exact mulQ_ok ho i1
  ·exact ho
 unfold conjStep
 simp only
 split
 ·exact mulQ_ok h1 i2
 ·exact h1
theorem range_drop {n k:Nat} (h:k < n):(List.range n).drop k=k :: (List.range n).drop (k+1):=by
 rw [drop_cons (l:=List.range n) (k:=k) (by simpa using h)]
 simp
end Go.Proofs.YtmenmibfkojnoaaGreat
