/- Plain facts on the ways to rewrite a lis. -/
import Derived.Test.YtmenmibfkojnoaaGreatY51
set_option maxHeartbeats 16000000
namespace Go.Proofs.YtmenmibfkojnoaaGreat
open Go.RowKit
set_option linter.unusedVariables false
theorem tC:cH []=[]:=if_pos (Nat.zero_le _)
theorem LC (s:iw) (q:Nat):lf (eV s q)<=lf s:=by
 by_cases hq:q < s.2.length
 ·have hs:=kj s.2 q [] hq;have hl:=jf (s.2.getD q []);unfold lf eV;simp only [List.length_append,List.length_nil] at hs ⊢;omega
 ·have e1:s.2.getD q []=[]:=by rw [List.getD_eq_getElem?_getD,List.getElem?_eq_none zO];rfl
  unfold eV;rw [e1,tC,List.append_nil,List.set_eq_of_length_le zO];exact zR
theorem pF:∀ (qs:List Nat) (s:iw),lf (ct s qs)<=lf s
 |[],s=>zR
 |q :: r,s=>Nat.le_trans (pF r (eV s q)) (LC s q)
theorem Pe (s:iw) (g:Gt):lf (qu s g)<=lf s+100:=by
 unfold qu;split
 ·by_cases hq:g.a.toNat < s.2.length
  ·have hs:=kj s.2 g.a.toNat (s.2.getD g.a.toNat []++[g]) hq;unfold lf;simp only [List.length_append,List.length_cons,List.length_nil] at hs ⊢;omega
  ·rw [List.set_eq_of_length_le zO];exact Nat.le_add_right _ _
 ·have:=pF (tV g) s;unfold lf at this ⊢;simp only [List.length_append,List.length_cons,List.length_nil];omega
theorem zY:∀ (l:List Gt) (s:iw),lf (gG l s)<=lf s+100 * l.length
 |[],s=>zR
 |g :: r,s=>by
  have h1:=zY r (qu s g);have h2:=Pe s g;rw [gG,List.length_cons];omega
theorem mh (l:List Gt) (n:Int):(aO l n).length<=100 * l.length:=by
 unfold aO;split
 ·have h1:=zY l ([],[[],[],[],[]]);have h2:=pF [0,1,2,3] (gG l ([],[[],[],[],[]]));have h3:lf (([],[[],[],[],[]]):iw)=0:=rfl;unfold lf at h1 h2 h3;omega
 ·omega
theorem gQ (l:List Gt):(aG l).length<=l.length:=ux _ _
theorem zZ {l:List Gt} (h:gA l=true):∀ g ∈ l,bh g.k=true:=List.all_eq_true.1 h
theorem tD {l s:List Gt} {n:Int} (hc:gA l=true) (h:ja l n=some s):wv l n=[aG s]/\s.length<=60:=by
 unfold ja at h;split at h
 ·rename_i h1;injection h with h;subst h
  unfold qG Ak at h1;simp only [Bool.and_eq_true,decide_eq_true_eq] at h1;obtain ⟨⟨h2,h3,h4⟩,h5⟩:=h1;refine ⟨?_,h5⟩;unfold wv pW;rw [if_pos];simp only [Bool.and_eq_true,decide_eq_true_eq];exact ⟨hc,h4,h2,h3,h5⟩
 ·cases h
theorem kN {l:List Gt} {n:Int} (h:gA l=false\/ja l n=none):wv l n=[]:=by
 unfold wv;rw [if_neg];intro h2;unfold pW at h2;simp only [Bool.and_eq_true,decide_eq_true_eq] at h2;obtain ⟨h3,h4,h5,h6,h7⟩:=h2;rcases h with h | h
 ·rw [h3] at h;cases h
 ·unfold ja at h;rw [if_pos] at h
  ·cases h
  ·unfold qG Ak;simp only [Bool.and_eq_true,decide_eq_true_eq];exact ⟨⟨h5,h6,h4⟩,h7⟩
theorem Ge {l:List Gt} {n:Int} (h:¬ l.length<=60):ja l n=none:=by
 unfold ja;rw [if_neg];intro h2;unfold qG at h2;simp only [Bool.and_eq_true,decide_eq_true_eq] at h2;exact h h2.1.2.1
theorem Aa {l x:List Gt} {n:Int} (hx:x ∈ gv l n):x.length<=100 * l.length+60:=by
 unfold gv at hx;rcases List.mem_append.1 hx with h | h
 ·simp only [List.mem_cons,List.not_mem_nil,or_false] at h;rcases h with rfl | rfl | rfl
  ·have:=gQ l;omega
  ·have:=gQ (cf l n).1;have:=kH l n;omega
  ·have:=gQ (aO l n);have:=mh l n;omega
 ·cases hr:ja l n with
  |none=>rw [kN (.inr hr)] at h;cases h
  |some s =>
   cases hc:gA l
   ·rw [kN (.inl hc)] at h;cases h
   ·obtain ⟨h1,h2⟩:=tD hc hr;rw [h1] at h;rw [List.mem_singleton.1 h];have:=gQ s;omega
theorem qi {ws:List (List Gt)} {k:Nat} {x b F:List Gt} (hx:ws[k]? = some x) (h:dy (ws.drop k) b=F):dy (ws.drop (k+1)) (if aR x < aR b then x else b)=F:=by
 obtain ⟨hk,e⟩:=List.getElem?_eq_some_iff.1 hx;rw [ax hk,e] at h;exact h
theorem CF {ws:List (List Gt)} {k:Nat} {b F:List Gt} (hk:ws.length<=k) (h:dy (ws.drop k) b=F):b=F:=by
 rw [List.drop_eq_nil_of_le hk] at h;exact h
theorem Gf (l:List Gt) (n:Int):dy (l :: gv l n) l=iE l n:=by
 show dy (gv l n) (if aR l < aR l then l else l)=iE l n;rw [if_neg zO];rfl
theorem tE (l:List Gt) (n:Int):((iE l n).length:Int)<=aR (iE l n)/\aR (iE l n)<=aR l:=by
 have h:∀ x:List Gt,(x.length:Int)<=aR x:=by
  intro x
  induction x with
  |nil=>simp [aR]
  |cons g r ih=>simp only [aR,List.length_cons];rcases fL g.k with ⟨_,h⟩ | ⟨_,h⟩ | ⟨_,h⟩<;>omega
 exact ⟨h _,(uH (gv l n) l).1⟩
def Eqv (n:Nat) (a b:List Gt):Prop:=∃ k,Vj n k a b
theorem RlN.eqv {n k:Nat} {a b:List Gt} (h:RlN n k a b):Eqv n a b:=⟨0,fun V hV=>by rw [h.2 V hV,h.1,nQ,gh]⟩
theorem Eqv.refl (n:Nat) (a:List Gt):Eqv n a a:=(RlN.refl n a).eqv
theorem Eqv.symm {n:Nat} {a b:List Gt} (h:Eqv n a b):Eqv n b a:=by
 obtain ⟨k,h⟩:=h;refine ⟨7 * k,fun V hV=>?_⟩;rw [h V hV,rP,ou (show (k+7 * k) % 8=0 % 8 by omega),nQ]
theorem Eqv.trans {n:Nat} {a b c:List Gt} (h:Eqv n a b) (h':Eqv n b c):Eqv n a c:=by
 obtain ⟨k,h⟩:=h;obtain ⟨j,h'⟩:=h';refine ⟨j+k,fun V hV=>?_⟩;refine BV (cP b) ?_;rw [gh,Nat.add_comm,<- gh,h V hV,i9,gh,Nat.add_comm,<- gh,h' V hV,i9,gh,rP,i9,gh,Nat.add_comm (cP b)]
theorem Eqv.mid {n:Nat} {a b p q:List Gt} (hp:je n p) (ha:je n a) (hb:je n b) (hq:je n q) (h:Eqv n a b):Eqv n (p++(a++q)) (p++(b++q)):=by
 obtain ⟨k,h⟩:=h;refine ⟨k,fun V hV=>?_⟩;have l1:=(aI p hp).2.2 V hV;have l2:=(aI a ha).2.2 _ l1;have l3:=(aI b hb).2.2 _ l1;have lq:=aI q hq;simp only [cK,dE];rw [show cP p+(cP b+cP q)=(cP p+cP q)+cP b by omega,show cP p+(cP a+cP q)=(cP p+cP q)+cP a by omega,<- gh,<- gh,<- lQ lq _ l2,h _ l1,lq.2.1 _ _ (by rw [gf,l3]),lQ lq _ l3,i9,gh,i9,gh,Nat.add_assoc]
theorem Eqv.app {n:Nat} {a b c d:List Gt} (ha:je n a) (hb:je n b) (hc:je n c) (hd:je n d) (h:Eqv n a b) (k:Eqv n c d):Eqv n (a++c) (b++d):=by
 have h1:=h.mid (p:=[]) (q:=c) (fun _ hx=>by simp at hx) ha hb hc;have h2:=k.mid (p:=b) (q:=[]) hb hc hd (fun _ hx=>by simp at hx);simp only [List.nil_append,List.append_nil] at h1 h2;exact h1.trans h2
def uY (a b:List Gt):Bool:=a.all (bF 1) && (b.all (bF 1) && (List.range 8).any fun k=>(List.range 2).all fun i=>decide (up (cP b) (aX a (eN 2 i))=cB (fw k) (up (cP a) (aX b (eN 2 i)))))
theorem mG {a b:List Gt} (h:uY a b=true):je 1 a/\je 1 b/\Eqv 1 a b:=by
 unfold uY at h;simp only [Bool.and_eq_true,List.all_eq_true,List.any_eq_true,decide_eq_true_eq] at h;obtain ⟨h1,h2,k,_,h3⟩:=h;exact ⟨h1,h2,k,fun V hV=>fX ((aI a h1).comp (ke _ _)) (((aI b h2).comp (ke _ _)).comp (Cl _ _)) (fun i hi=>h3 i (List.mem_range.2 hi)) hV⟩
def Ew (t:List Pq):Bool:=([1,2,3,4,5,6]:List Int).all (fun k=>uY (cw t++[g1 k]) (cw (di 1 (g1 k) t))) && (uY (cw t++[g1 7]) (dH (cr t)++([g1 7]++cw (dT t))) &&
 (!(cr t == 0) || (List.range 3).all fun m=>uY (dH m++([g1 7]++(cw t++[g1 7]))) (cw (bP (bH 1 (dH m++[g1 5]) (ch 1)) (dT t)))))
theorem Pf:((List.range 24).all fun i=>Ew (allT.getD i []))=true:=by decide +kernel
theorem VI:uY [g1 8] [g1 6,g1 7]=true:=by decide +kernel
theorem VJ:cw (ch 1)=[]:=by decide +kernel
theorem Qw {t:List Pq} (h:ed 1 t):Ew t=true:=by
 obtain ⟨i,hi,rfl⟩:=sh h;exact List.all_eq_true.1 Pf i (List.mem_range.2 hi)
theorem xE (l:List Nat):je 1 (l.flatMap fun k=>dH k++[g1 7]):=by
 intro g hg;obtain ⟨k,_,hg⟩:=List.mem_flatMap.1 hg;have:∀ g ∈ dH k++[g1 7],bF 1 g=true:=by
  unfold dH;split
  ·decide
  ·split<;>decide
 exact this g hg
theorem TL {t:List Pq} (h:ed 1 t):je 1 (cw t):=fun g hg=>((tr h).2 g hg).1
theorem pG {s:Nf} (h:ed 1 s.2):je 1 (qP s):=bE (xE s.1) (TL h)
theorem tF {k:Int} (hk:1<=k/\k<=8):bF 1 (g1 k)=true:=by
 obtain rfl | rfl | rfl | rfl | rfl | rfl | rfl | rfl:k=1\/k=2\/k=3\/k=4\/k=5\/k=6\/k=7\/k=8:=zO
 all_goals decide
theorem Ey {s:Nf} (h1:ef s.1) (h2:ed 1 s.2):Eqv 1 (qP s++[g1 7]) (qP (qr s)):=by
 have hc:=Qw h2;unfold Ew at hc;simp only [Bool.and_eq_true,Bool.or_eq_true,List.all_eq_true] at hc;obtain ⟨_,c2,c3'⟩:=hc;have n0:je 1 []:=fun _ hx=>by simp at hx
 unfold qr;by_cases hp:cr s.2=0/\s.1 ≠ []
 ·rw [if_pos hp];obtain ⟨l,m,hl⟩:∃ l m,s.1=l++[m]:=⟨s.1.dropLast,s.1.getLast hp.2,(List.dropLast_concat_getLast hp.2).symm⟩;have hm:m<=2:=(h1 l.length m (by rw [hl];simp)).1;rcases c3' with c3' | c3'
  ·rw [hp.1] at c3';simp at c3'
  ·obtain ⟨a1,a2,a3⟩:=mG (c3' m (List.mem_range.2 zO));have:=a3.mid (p:=l.flatMap fun k=>dH k++[g1 7]) (q:=[]) (xE l) a1 a2 n0;unfold qP;rw [hl];simp only [List.dropLast_concat,List.length_append,List.length_singleton,Nat.add_sub_cancel,List.getD_eq_getElem?_getD,List.getElem?_concat_length,Option.getD_some,List.flatMap_append,List.flatMap_singleton,List.append_nil,List.append_assoc] at this ⊢;exact this
 ·rw [if_neg hp];obtain ⟨a1,a2,a3⟩:=mG c2;have:=a3.mid (p:=s.1.flatMap fun k=>dH k++[g1 7]) (q:=[]) (xE s.1) a1 a2 n0;unfold qP;simp only [List.flatMap_append,List.flatMap_singleton,List.append_nil,List.append_assoc] at this ⊢;exact this
theorem Ez {s:Nf} {k:Int} (hk:1<=k/\k<=6) (h2:ed 1 s.2):Eqv 1 (qP s++[g1 k]) (qP (s.1,di 1 (g1 k) s.2)):=by
 have hc:=Qw h2;unfold Ew at hc;simp only [Bool.and_eq_true,List.all_eq_true] at hc;obtain ⟨a1,a2,a3⟩:=mG (hc.1 k zJ);have:=a3.mid (p:=s.1.flatMap fun k=>dH k++[g1 7]) (q:=[]) (xE s.1) a1 a2 (fun _ hx=>by simp at hx);unfold qP;simpa [List.append_assoc] using this
theorem Pg {s:Nf} {k:Int} (hk:1<=k/\k<=8) (h1:ef s.1) (h2:ed 1 s.2):Eqv 1 (qP s++[g1 k]) (qP (qO s k)):=by
 unfold qO;split
 ·rename_i h;rw [h];exact Ey h1 h2
 ·split
  ·rename_i h;rw [h];have h6:=eh (k:=6) zO;have o6:=iB h6.1 h6.2 h2;obtain ⟨a1,a2,a3⟩:=mG VI;have e1:=a3.mid (p:=qP s) (q:=[]) (pG h2) a1 a2 (fun _ hx=>by simp at hx);have e2:=(Ez (k:=6) zO h2).mid (p:=[]) (q:=[g1 7]) (fun _ hx=>by simp at hx) (bE (pG h2) (fB h6.1)) (pG (s:=(s.1,di 1 (g1 6) s.2)) o6) (fB (tF zO));have e3:=Ey (s:=(s.1,di 1 (g1 6) s.2)) h1 o6;simp only [List.append_nil,List.nil_append,List.append_assoc,List.cons_append] at e1 e2;exact e1.trans (e2.trans e3)
  ·exact Ez zO h2
theorem ED:∀ (ks:List Int) (s:Nf),(∀ k ∈ ks,1<=k/\k<=8)->ef s.1->ed 1 s.2->Eqv 1 (qP s++ks.map g1) (qP (ut ks s))
 |[],s,_,_,_=>by rw [List.map_nil,List.append_nil];exact Eqv.refl 1 _
 |k :: r,s,h,h1,h2=>by
  have hk:=h k zI;have hr:∀ x ∈ r,1<=x/\x<=8:=fun x hx=>h x (by simp [hx])
  obtain ⟨a,b⟩:=vM hk h1 h2;have ih:=ED r (qO s k) hr a b;have e:=(Pg hk h1 h2).mid (p:=[]) (q:=r.map g1) (fun _ hx=>by simp at hx) (bE (pG h2) (fB (tF hk))) (pG b) (fun g hg=>by
   obtain ⟨x,hx,rfl⟩:=List.mem_map.1 hg;exact tF (hr x hx))
  simp only [List.nil_append,List.append_assoc,List.cons_append] at e;exact e.trans ih
theorem CG {l:List Gt} (h:∀ g ∈ l,1<=g.k/\g.k<=8):je 1 (eu l)/\Eqv 1 ((l.map Gt.k).map g1) (eu l):=by
 have hk:∀ k ∈ l.map Gt.k,1<=k/\k<=8:=fun k hk=>by
  obtain ⟨g,hg,rfl⟩:=List.mem_map.1 hk;exact h g hg
 have e:=ED (l.map Gt.k) ([],ch 1) hk iJ gR;have e0:qP ([],ch 1)=[]:=VJ;rw [e0] at e;exact ⟨pG (vN (l.map Gt.k) ([],ch 1) hk iJ gR).2,e⟩
def qj (a i:Nat):Nat:=if aZ i a then i - 2 ^ a else i
def Gq (a i:Nat):Nat:=if aZ i a then 1 else 0
def qk (a i:Nat) (V:List Zw):List Zw:=[V.getD (qj a i) Zw.zero,V.getD (qj a i+2 ^ a) Zw.zero]
def Ab (n a:Nat):Bool:=(List.range (2 ^ n)).all fun i=>(decide (qj a i+2 ^ a < 2 ^ n) && (decide (qj a i=i - 2 ^ a * Gq a i) && decide (i=qj a i+2 ^ a * Gq a i))) &&
 ((decide (qj a (qj a i)=qj a i/\Gq a (qj a i)=0) && decide (qj a (qj a i+2 ^ a)=qj a i/\Gq a (qj a i+2 ^ a)=1)) &&
 ([1,2,3,4,5,6,7,8]:List Int).all fun k=>bF n ⟨k,a,0,0⟩ && (List.range (2 ^ n)).all fun j=>decide (co (bU ⟨k,a,0,0⟩ j) i=(dL (g1 k) (qk a i (eN (2 ^ n) j))).getD (Gq a i) Zw.zero))
theorem Gg {n a:Nat} (hn:1<=n/\n<=4) (ha:a < n):Ab n a=true:=by
 have h1:(List.range 1).all (Ab 1)=true:=by decide +kernel
 have h2:(List.range 2).all (Ab 2)=true:=by decide +kernel
 have h3:(List.range 3).all (Ab 3)=true:=by decide +kernel
 have h4:(List.range 4).all (Ab 4)=true:=by decide +kernel
 obtain rfl | rfl | rfl | rfl:n=1\/n=2\/n=3\/n=4:=zO
 ·exact List.all_eq_true.1 h1 a (List.mem_range.2 ha)
 ·exact List.all_eq_true.1 h2 a (List.mem_range.2 ha)
 ·exact List.all_eq_true.1 h3 a (List.mem_range.2 ha)
 ·exact List.all_eq_true.1 h4 a (List.mem_range.2 ha)
theorem Ad {n a i:Nat} (hn:1<=n/\n<=4) (ha:a < n) (hi:i < 2 ^ n):qj a i+2 ^ a < 2 ^ n/\(qj a (qj a i)=qj a i/\Gq a (qj a i)=0)/\(qj a (qj a i+2 ^ a)=qj a i/\Gq a (qj a i+2 ^ a)=1)/\i=qj a i+2 ^ a * Gq a i ∧
  ∀ k:Int,1<=k/\k<=8->bF n ⟨k,(a:Nat),0,0⟩=true/\∀ j,j < 2 ^ n->co (bU ⟨k,(a:Nat),0,0⟩ j) i=(dL (g1 k) (qk a i (eN (2 ^ n) j))).getD (Gq a i) Zw.zero:=by
 have h:=List.all_eq_true.1 (Gg hn ha) i (List.mem_range.2 hi);simp only [Bool.and_eq_true,decide_eq_true_eq,List.all_eq_true] at h;obtain ⟨⟨h1,_,h3⟩,⟨h4,h5⟩,h6⟩:=h;refine ⟨h1,h4,h5,h3,fun k hk=>?_⟩;obtain ⟨a1,a2⟩:=h6 k zJ;exact ⟨a1,fun j hj=>a2 j (List.mem_range.2 hj)⟩
theorem TM {N a i:Nat} {f:List Zw->Zw} (hf:ww 2 f):ww N (fun V=>f (qk a i V)):=by
 refine ⟨fun V W h1 h2=>?_,fun c V h1=>?_⟩
 ·simp only;rw [<- hf.1 _ _ rfl rfl];unfold qk;rw [aS (h1.trans h2.symm),aS (h1.trans h2.symm)];rfl
 ·simp only;rw [<- hf.2 _ _ rfl];unfold qk;rw [bj,bj];rfl
theorem Ae {n a i:Nat} {k:Int} (hn:1<=n/\n<=4) (ha:a < n) (hi:i < 2 ^ n) (hk:1<=k/\k<=8) {V:List Zw} (hV:V.length=2 ^ n):(dL ⟨k,(a:Nat),0,0⟩ V).getD i Zw.zero=(dL (g1 k) (qk a i V)).getD (Gq a i) Zw.zero:=by
 obtain ⟨_,_,_,_,h5⟩:=Ad hn ha hi;obtain ⟨a1,a2⟩:=h5 k hk;refine wF (f:=fun V=>(dL ⟨k,(a:Nat),0,0⟩ V).getD i Zw.zero) (Nat.pow_pos zO) (oe (BP _ i) (aL a1)) (TM (oe (BP 2 (Gq a i)) (aL (n:=1) (tF hk)))) (fun j hj=>?_) hV;rw [BS a1 hj];exact a2 j hj
theorem Ph {x y:List Zw} (hx:x.length=2) (hy:y.length=2) (h0:x.getD 0 Zw.zero=y.getD 0 Zw.zero) (h1:x.getD 1 Zw.zero=y.getD 1 Zw.zero):x=y:=bT (by rw [hx,hy]) fun s hs=>by
 obtain rfl | rfl:s=0\/s=1:=zO
 ·exact h0
 ·exact h1
theorem Pi {n a i:Nat} {k:Int} (hn:1<=n/\n<=4) (ha:a < n) (hi:i < 2 ^ n) (hk:1<=k/\k<=8) {V:List Zw} (hV:V.length=2 ^ n):qk a i (dL ⟨k,(a:Nat),0,0⟩ V)=dL (g1 k) (qk a i V):=by
 obtain ⟨h1,⟨h2,h3⟩,⟨h4,h5⟩,_,_⟩:=Ad hn ha hi;have e1:=Ae hn ha (show qj a i < 2 ^ n by omega) hk hV;have e2:=Ae hn ha h1 hk hV;have p1:qk a (qj a i) V=qk a i V:=by unfold qk;rw [h2]
 have p2:qk a (qj a i+2 ^ a) V=qk a i V:=by unfold qk;rw [h4]
 rw [h3,p1] at e1;rw [h5,p2] at e2;exact Ph rfl ((aL (n:=1) (tF hk)).2.2 _ rfl) e1 e2
def LD (a:Nat) (ks:List Int):List Gt:=ks.map fun k=>⟨k,(a:Nat),0,0⟩
theorem pH {n a i:Nat} (hn:1<=n/\n<=4) (ha:a < n) (hi:i < 2 ^ n):∀ (ks:List Int) (V:List Zw),(∀ k ∈ ks,1<=k/\k<=8)->V.length=2 ^ n->qk a i (aX (LD a ks) V)=aX (ks.map g1) (qk a i V)
 |[],V,_,_=>rfl
 |k :: r,V,h,hV=>by
  have hk:=h k zI;have ok:=((Ad hn ha hi).2.2.2.2 k hk).1;show qk a i (aX (LD a r) (dL _ V))=aX (r.map g1) (dL (g1 k) _);rw [pH hn ha hi r _ (fun x hx=>h x (by simp [hx])) ((aL ok).2.2 V hV),Pi hn ha hi hk hV]
theorem CH {n a:Nat} (hn:1<=n/\n<=4) (ha:a < n) {ks:List Int} (h:∀ k ∈ ks,1<=k/\k<=8):je n (LD a ks):=by
 intro g hg;obtain ⟨k,hk,rfl⟩:=List.mem_map.1 hg;exact ((Ad hn ha (i:=0) (Nat.pow_pos zO)).2.2.2.2 k (h k hk)).1
theorem xF (a:Nat):∀ ks:List Int,cP (LD a ks)=cP (ks.map g1)
 |[]=>rfl
 |k :: r=>by
  show hc _+cP (LD a r)=hc _+cP (r.map g1);rw [xF a r];rfl
theorem Qx (a i k:Nat) {V:List Zw}:qk a i (up k V)=up k (qk a i V):=by
 have z:dl k Zw.zero=Zw.zero:=by rw [jA,a8]
 have e:∀ j,(up k V).getD j Zw.zero=dl k (V.getD j Zw.zero):=fun j=>by
  unfold up;rw [List.getD_eq_getElem?_getD,List.getD_eq_getElem?_getD,List.getElem?_map];cases V[j]? with
  |none=>exact z.symm
  |some x=>rfl
 unfold qk;rw [e,e];rfl
theorem TN (a i:Nat) (c:Zw) {V:List Zw}:qk a i (cB c V)=cB c (qk a i V):=by
 unfold qk;rw [bj,bj];rfl
theorem TP {n a:Nat} (hn:1<=n/\n<=4) (ha:a < n) {V W:List Zw} (hV:V.length=2 ^ n) (hW:W.length=2 ^ n) (h:∀ i,i < 2 ^ n->qk a i V=qk a i W):V=W:=by
 refine bT (by rw [hV,hW]) fun s hs=>?_
 have hs':s < 2 ^ n:=zO;have e:=h s hs';have hi:=(Ad hn ha hs').2.2.2.1;unfold qk at e;injection e with e1 e2;injection e2 with e2 _;unfold Gq at hi
 split at hi
 ·rw [Nat.mul_one] at hi;rw [hi];exact e2
 ·rw [Nat.mul_zero,Nat.add_zero] at hi;rw [hi];exact e1
theorem LE {n a:Nat} (hn:1<=n/\n<=4) (ha:a < n) {u v:List Int} (hu:∀ k ∈ u,1<=k/\k<=8) (hv:∀ k ∈ v,1<=k/\k<=8) (h:Eqv 1 (u.map g1) (v.map g1)):Eqv n (LD a u) (LD a v):=by
 obtain ⟨k,h⟩:=h;refine ⟨k,fun V hV=>?_⟩;have l1:=(aI _ (CH hn ha hu)).2.2 V hV;have l2:=(aI _ (CH hn ha hv)).2.2 V hV;refine TP hn ha (by rw [gf,l1]) (by rw [aK,gf,l2]) fun i hi=>?_
 rw [Qx,TN,Qx,pH hn ha hi u V hu hV,pH hn ha hi v V hv hV,xF,xF];exact h _ rfl
theorem EE {q:Nat} {l:List Gt} (h:RunOn q l):l=LD q (l.map Gt.k):=by
 unfold LD;rw [List.map_map]
 conv=>lhs;rw [<- List.map_id l]
 exact List.map_congr_left fun g hg=>(h g hg).1
theorem Pj {l:List Gt} (h:je 1 l) (hk:∀ g ∈ l,g=g1 g.k/\1<=g.k/\g.k<=8):l=(l.map Gt.k).map g1:=by
 rw [List.map_map]
 conv=>lhs;rw [<- List.map_id l]
 exact List.map_congr_left fun g hg=>(hk g hg).1
def VK:Bool:=(bC 1).all fun g=>decide (g=g1 g.k/\1<=g.k/\g.k<=8)
theorem EF {g:Gt} (h:bF 1 g=true):g=g1 g.k/\1<=g.k/\g.k<=8:=by
 have h0:VK=true:=by decide +kernel
 exact of_decide_eq_true (List.all_eq_true.1 h0 g (cS h))
theorem Gh {q:Nat} {l:List Gt} (h:RunOn q l):RunOn q (cH l)/\∀ n,(1<=n/\n<=4)->q < n->Eqv n l (cH l):=by
 obtain ⟨o1,o2⟩:=CG (l:=l) (fun g hg=>(h g hg).2);unfold cH;split
 ·exact ⟨h,fun n _ _=>Eqv.refl n l⟩
 ·rename_i hc;have hl:(l.getD 0 (g1 0)).a=(q:Int):=by
   cases l with
   |nil=>exact absurd (Nat.zero_le _) hc
   |cons g r=>have:=(h g zI).1;show g.a=_;rw [this]
  have hm:(eu l).map (L8 (l.getD 0 (g1 0)).a)=LD q ((eu l).map Gt.k):=by
   unfold LD;rw [hl,List.map_map];refine List.map_congr_left fun g hg=>?_
   have:=(EF (o1 g hg)).1;show (⟨g.k,(q:Int),g.b,g.c⟩:Gt)=_;rw [this];rfl
  rw [hm];refine ⟨fun g hg=>?_,fun n hn hq=>?_⟩
  ·obtain ⟨k,hk,rfl⟩:=List.mem_map.1 hg;obtain ⟨x,hx,rfl⟩:=List.mem_map.1 hk;exact ⟨rfl,(EF (o1 x hx)).2⟩
  ·have e:=LE hn hq (u:=l.map Gt.k) (v:=(eu l).map Gt.k) (fun k hk=>by
    obtain ⟨x,hx,rfl⟩:=List.mem_map.1 hk;exact (h x hx).2) (fun k hk=>by
    obtain ⟨x,hx,rfl⟩:=List.mem_map.1 hk;exact (EF (o1 x hx)).2) (by rw [<- Pj o1 fun g hg=>EF (o1 g hg)];exact o2)
   rw [<- EE h] at e;exact e
def VM (n:Nat):Bool:=(bC n).all fun g=>!(decide (aA g.k=1)) || (decide (g=⟨g.k,(g.a.toNat:Nat),0,0⟩/\g.a.toNat < n/\1<=g.k/\g.k<=8) && (bC n).all fun h=>(tV h).contains g.a.toNat || (jI g h && jI h g))
def VN (n:Nat):Bool:=(bC n).all fun g=>(tV g).all fun q=>decide (q < n)
theorem pI {n:Nat} (hn:1<=n/\n<=4):VM n=true/\VN n=true:=by
 obtain rfl | rfl | rfl | rfl:n=1\/n=2\/n=3\/n=4:=zO
 all_goals exact ⟨by decide +kernel,by decide +kernel⟩
theorem LF {n:Nat} {g h:Gt} (hg:bF n g=true) (h1:aA g.k=1) (hh:bF n h=true) (hq:g.a.toNat ∉ tV h):jI g h=true/\jI h g=true:=by
 have:=List.all_eq_true.1 (pI (dm hg)).1 g (cS hg);simp only [h1,decide_true,Bool.not_true,Bool.false_or,Bool.and_eq_true,decide_eq_true_eq] at this;have h2:=List.all_eq_true.1 this.2 h (cS hh);simp only [Bool.or_eq_true,Bool.and_eq_true] at h2;rcases h2 with h2 | h2
 ·exact absurd (by simpa using h2) hq
 ·exact h2
theorem LG {n:Nat} {g:Gt} (hg:bF n g=true) (h1:aA g.k=1):g=⟨g.k,(g.a.toNat:Nat),0,0⟩/\g.a.toNat < n/\1<=g.k/\g.k<=8:=by
 have:=List.all_eq_true.1 (pI (dm hg)).1 g (cS hg);simp only [h1,decide_true,Bool.not_true,Bool.false_or,Bool.and_eq_true,decide_eq_true_eq] at this;exact this.1
theorem kO {n:Nat}:∀ (a b:List Gt),je n a->je n b->(∀ x ∈ a,∀ y ∈ b,jI x y=true)->Eqv n (a++b) (b++a)
 |[],b,_,_,_=>by rw [List.append_nil];exact Eqv.refl n b
 |x :: r,b,ha,hb,h=>by
  have hx:=ha x zI;have hr:je n r:=fun y hy=>ha y (by simp [hy])
  have e1:=(kO r b hr hb fun y hy=>h y (by simp [hy])).mid (p:=[x]) (q:=[]) (fB hx) (bE hr hb) (bE hb hr) (fun _ hx=>by simp at hx);have e2:=(tn hx b fun m hm=>⟨hb m hm,h x zI m hm⟩).eqv.mid (p:=[]) (q:=r) (fun _ hx=>by simp at hx) (fun y hy=>by
   rcases List.mem_cons.1 hy with rfl | hy
   ·exact hx
   ·exact hb y hy) (bE hb (fB hx)) hr
  simp only [List.append_nil,List.nil_append,List.append_assoc,List.cons_append] at e1 e2;exact e1.trans e2
end Go.Proofs.YtmenmibfkojnoaaGreat
