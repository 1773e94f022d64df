/- Plain: lists of valid gates whose linear. -/
import Derived.Test.YtmenmibfkojnoaaGreatY28
set_option maxHeartbeats 16000000
namespace Go.Proofs.YtmenmibfkojnoaaGreat
set_option linter.unusedVariables false
def iD (g:Gt):Gt:=⟨if g.k=5 then 6 else if g.k=6 then 5 else if g.k=7 then 8 else if g.k=8 then 7 else g.k,g.a,g.b,g.c⟩
def mT (n:Nat) (g:Gt):Bool:=bF n (iD g) && (List.range (2 ^ n)).all fun i=>decide (dL (iD g) (dL g (eN (2 ^ n) i))=(eN (2 ^ n) i).map (dl (2 * hc g)))
def JI (n:Nat):Bool:=(bC n).all (mT n)
theorem UZ:JI 1=true:=by decide +kernel
theorem U5:JI 2=true:=by decide +kernel
theorem U6:JI 3=true:=by decide +kernel
theorem Sq:((bC 4).take 16).all (mT 4)=true:=by decide +kernel
theorem Sr:(((bC 4).drop 16).take 16).all (mT 4)=true:=by decide +kernel
theorem Ss:(((bC 4).drop 32).take 16).all (mT 4)=true:=by decide +kernel
theorem St:(((bC 4).drop 48).take 16).all (mT 4)=true:=by decide +kernel
theorem Su:(((bC 4).drop 64).take 16).all (mT 4)=true:=by decide +kernel
theorem Sv:((bC 4).drop 80).all (mT 4)=true:=by decide +kernel
theorem de {α:Type} {l:List α} {p:α->Bool} {k:Nat} (h:(l.take k).all p=true) (h':(l.drop k).all p=true):l.all p=true:=by
 rw [<- List.take_append_drop k l,List.all_append,h,h'];rfl
theorem U7:JI 4=true:=by
 refine de Sq ?_;refine de Sr ?_;rw [List.drop_drop];refine de Ss ?_;rw [List.drop_drop];refine de St ?_;rw [List.drop_drop];refine de Su ?_;rw [List.drop_drop];exact Sv
theorem sC {n:Nat} (h:1<=n/\n<=4):JI n=true:=by
 obtain rfl | rfl | rfl | rfl:n=1\/n=2\/n=3\/n=4:=zO
 ·exact UZ
 ·exact U5
 ·exact U6
 ·exact U7
theorem ke (N k:Nat):LinN N (fun V=>V.map (dl k)):=by
 refine ⟨fun V W h1 h2=>?_,fun c V h1=>?_,fun V h1=>by rw [List.length_map,h1]⟩
 ·unfold bl
  dsimp only
  rw [List.map_zipWith,List.zipWith_map];congr 1
  funext x y
  exact qF k x y
 ·unfold cB
  dsimp only
  rw [List.map_map,List.map_map];congr 1
  funext x
  exact (mq c k x).symm
theorem qR {n:Nat} {g:Gt} (hg:bF n g=true) {V:List Zw} (hV:V.length=2 ^ n):dL (iD g) (dL g V)=V.map (dl (2 * hc g)):=by
 have h:=List.all_eq_true.1 (sC (dm hg)) g (cS hg);unfold mT at h;simp only [Bool.and_eq_true] at h;refine fX (f:=fun V=>dL (iD g) (dL g V)) ((aL hg).comp (aL h.1)) (ke _ _) (fun i hi=>?_) hV;have:=List.all_eq_true.1 h.2 i (List.mem_range.2 hi);simpa using this
def Uf (V:List Zw):Prop:=∀ z ∈ V,z=Zw.zero
theorem Sw {V:List Zw} (h:Uf V):V=List.replicate V.length Zw.zero:=List.eq_replicate_iff.2 ⟨rfl,h⟩
theorem JJ (k:Nat) (z:Zw) (h:dl k z=Zw.zero):z=Zw.zero:=by
 induction k with
 |zero=>exact h
 |succ k ih=>exact ih (Ij (show rt (dl k z)=rt Zw.zero by rw [show rt Zw.zero=Zw.zero by decide];exact h))
theorem NM {n:Nat} {g:Gt} (hg:bF n g=true) {V:List Zw} (hV:V.length=2 ^ n) (h:Uf (dL g V)):Uf V:=by
 have e:=qR hg hV;have h2:=List.all_eq_true.1 (sC (dm hg)) g (cS hg);unfold mT at h2;simp only [Bool.and_eq_true] at h2;rw [Sw h,(aL hg).2.2 V hV] at e;have l:=aL h2.1;have z0:dL (iD g) (List.replicate (2 ^ n) Zw.zero)=List.replicate (2 ^ n) Zw.zero:=by
  have:=l.2.1 Zw.zero (List.replicate (2 ^ n) Zw.zero) (by rw [List.length_replicate]);rw [mr] at this;rw [this];refine (List.eq_replicate_iff.2 ⟨?_,fun z hz=>?_⟩)
  ·rw [aK,l.2.2 _ (by rw [List.length_replicate])]
  ·unfold cB at hz;obtain ⟨x,_,rfl⟩:=List.mem_map.1 hz
   apply du<;>simp [ai,Zw.zero]
 rw [z0] at e;intro z hz;have:dl (2 * hc g) z ∈ V.map (dl (2 * hc g)):=List.mem_map.2 ⟨z,hz,rfl⟩;rw [<- e] at this;exact JJ _ _ (List.eq_of_mem_replicate this)
theorem yT {n:Nat}:∀ (gs:List Gt) (V:List Zw),(∀ g ∈ gs,bF n g=true)->V.length=2 ^ n->Uf (aX gs V)->Uf V
 |[],V,_,_,h=>h
 |g :: r,V,hg,hV,h=>by
  have l:=(aL (hg g zI)).2.2 V hV;exact NM (hg g zI) hV (yT r (dL g V) (fun x hx=>hg x (by simp [hx])) l h)
theorem JK {j k:Nat} (hj:j < 8) (hk:k < 8) (hne:j ≠ k) {z:Zw} (h:ai z (fw j)=ai z (fw k)):z=Zw.zero:=by
 obtain ⟨a,b,c,d⟩:=z;obtain e | e | e | e | e | e | e | e:j=0\/j=1\/j=2\/j=3\/j=4\/j=5\/j=6\/j=7:=zO
 all_goals subst e
 all_goals obtain e | e | e | e | e | e | e | e:k=0\/k=1\/k=2\/k=3\/k=4\/k=5\/k=6\/k=7:=zO
 all_goals subst e
 all_goals first
  |exact absurd rfl hne
  |(simp only [ai,fw,Nat.reduceMod,Zw.mk.injEq,Int.mul_zero,Int.mul_one,Int.mul_neg,Int.sub_zero,Int.zero_sub,Int.zero_add,Int.add_zero,Int.sub_neg] at h
    apply du<;>simp only [Zw.zero]<;>omega)
theorem Sx (k:Nat):cV k=⟨fw k,((0:Nat):Int)⟩:=rfl
theorem JL {z:Zw} {E:Nat} (hE:E<=60) (hz:gX 1073741824 z) (k:Nat):iR (nf z E) (cV k)=some (nf (ai z (fw k)) E):=by
 rw [Sx];exact Dh (Int.le_refl _) (Iu k) zO zO hz
theorem U8 {V:List Zw} {E:Nat} (hE:E<=60) (hV:∀ z ∈ V,gX 1073741824 z) (k:Nat):sc k (NV V E)=NV (cB (fw k) V) E:=by
 unfold sc NV cB;rw [List.map_map,List.map_map];refine List.map_congr_left fun z hz=>?_
 show (iR (nf z E) (cV k)).getD Dw.zero=nf (ai z (fw k)) E;rw [JL hE (hV z hz)];rfl
theorem Sy {V W:List Zw} {E:Nat} (h:NV V E=NV W E):V=W:=by
 have hl:V.length=W.length:=by have:=congrArg List.length h;rwa [nh,nh] at this
 refine List.ext_getElem hl fun s s1 s2=>?_
 have:=congrArg (fun l=>l[s]?) h;unfold NV at this;simp only [List.getElem?_map,List.getElem?_eq_getElem s1,List.getElem?_eq_getElem s2,Option.map_some,Option.some.injEq] at this;exact Ro this
end Go.Proofs.YtmenmibfkojnoaaGreat
