/- Contracts of WordTableau, CosetRepresent. -/
import Derived.Test.YtmenmibfkojnoaaGreatY36
import Derived.Test.YtmenmibfkojnoaaGreatY22
set_option maxHeartbeats 16000000
set_option maxRecDepth 100000
namespace Go.Proofs.YtmenmibfkojnoaaGreat
open Go.RowKit
set_option linter.unusedVariables false
abbrev RetT1 (r:List Pq) (w:World) (e:Ending) (w':World):Prop :=
 ∃ A c,e=.returned (.tuple #[.agg #[(1:Int),.slice A 2 c],.bool true])/\w'.ownsRow w 151 4 (.slice A 2 c) 2 (af (dP 1 r))/\Below w w w'
abbrev RetT2 (r:List Pq) (w:World) (e:Ending) (w':World):Prop :=
 ∃ A c,e=.returned (.agg #[(1:Int),.slice A 2 c])/\w'.ownsRow w 151 4 (.slice A 2 c) 2 (af (dP 1 r))/\Below w w w'
theorem RetT1.of {r:List Pq} {w w':World} {e:Ending} (h:rZ 1 (2 * 1) r w e w'):RetT1 r w e w':=h
theorem RetT2.of {r:List Pq} {w w':World} {e:Ending} (h:qL 1 (2 * 1) r w e w'):RetT2 r w e w':=h
theorem KD {p:Prop} (h:p:=by
  exact ae (aM (aM O1.out RB zD 0 _) (h1 _ RB) zD 1 _) lb):p:=h
theorem uM (m c:Nat) (A:Option Addr) (l:List Gt) (w:World) (hr:RdG w A m l) (hm:m<=60) (hl:∀ g ∈ l,bF 1 g=true/\bh g.k=true) :
  Calls Tryz.prog 208 #[.slice A m c] w (RetT1 (bH 1 l (ch 1)) w):=by
 have R0:=zH (Bx.new w 73 #[(0:Int),.slice none 0 0]);have B0:=zH (show Below w w (w.alloc ZO.zT) from (zW).alloc zR _);have HW:=zH hr;have HL:=zH hl;clear hr hl;go_enter Tryz.func208,Tryz.ntmps208;go_wp2_with fail;refine (zh 1 m c A l _ zO (HW.below B0) hm HL gR).mono ?_;intro e w1 hret;obtain ⟨A1,c1,rfl,o1,b1⟩:=RetT1.of hret;clear hret;have O1:=zH o1;have R1:=zH (R0.below b1);have B1:=zH (aa B0 b1);have lb:=B0.size;clear o1 b1 R0;obtain ⟨r0,r1,r2,r3⟩:=R1.two;go_wp2_with fail;have RB:=R1.out;have h1:=fun (wx:World) (h:Bx wx w 73 #[(0:Int),.slice none 0 0])=>(show Bx (wx.setCell ⟨w,0,none⟩ (.int .i64 1)) w 73 #[(1:Int),.slice none 0 0] by simpa using h.set_ 0 (.int .i64 1))
 with_reducible refine eD (v:=.tuple #[.agg #[(1:Int),.slice A1 2 c1],.bool true]) RB ?_ ?_ ⟨A1,c1,rfl,?_,?_⟩
 ·intro wS z0 z1;simp [results,Tryz.results208,go_sem,z0,z1]
 ·rfl
 ·exact KD
 ·exact ay B1.out zR _ _
theorem KF {p:Prop} (h:p:=by
  exact ⟨_,_,rfl,World.ownsRow_lit _ #[(6:Int),(0:Int),(0:Int),(0:Int),(4:Int),(0:Int),(0:Int),(0:Int)] 2 hB.size zM rfl,hB.alloc hB.size _⟩):p:=h
theorem KG {p:Prop} (h:p:=by
  exact ⟨_,_,rfl,World.ownsRow_lit _ #[(4:Int),(0:Int),(0:Int),(0:Int)] 1 hB.size zM rfl,hB.alloc hB.size _⟩):p:=h
theorem Vq (k:Int) (w:World) (hk:k=0\/k=1\/k=2) :
  Calls Tryz.prog 146 #[k] w fun e w'=>∃ A c,e=.returned (.slice A (dH k.toNat).length c)/\w'.ownsRow w 39 4 (.slice A (dH k.toNat).length c) (dH k.toNat).length (af (dH k.toNat))/\Below w w w':=by
 have hB:=Below.refl w w;rcases hk with rfl | rfl | rfl
 all_goals go_enter Tryz.func146,Tryz.ntmps146
 all_goals go_wp2_with (go_at_call 106;refine (eG _ _ _).mono ?_;rintro e w1 ⟨rfl,b1⟩;have hB:=aa hB b1)
 all_goals go_ret
 ·exact ⟨_,_,rfl,World.ownsRow_lit w #[] 0 zR zM rfl,(zW).alloc zR _⟩
 ·exact KG
 ·exact KF
theorem uN (m c:Nat) (A:Option Addr) (l:List Gt) (w:World) (hr:RdG w A m l) (hm:m<=60) (hl:∀ g ∈ l,bF 1 g=true/\bh g.k=true) :
  Calls Tryz.prog 164 #[.slice A m c] w (RetT1 (bH 1 l (ch 1)) w):=by
 have R0:=zH (Bx.new w 73 #[(0:Int),.slice none 0 0]);have B0:=zH (show Below w w (w.alloc ZO.zT) from (zW).alloc zR _);have HW:=zH hr;have HL:=zH hl;clear hr hl;go_enter Tryz.func164,Tryz.ntmps164;go_wp2_with fail;refine (y8 1 m c A l _ zO (HW.below B0) hm HL gR).mono ?_;intro e w1 hret;obtain ⟨A1,c1,rfl,o1,b1⟩:=RetT1.of hret;clear hret;have O1:=zH (o1.alloc (.cells #[(1:Int),.slice A1 2 c1] 73));have R1:=zH ((R0.below b1).alloc (.cells #[(1:Int),.slice A1 2 c1] 73));have B1:=zH ((aa B0 b1).alloc (aa B0 b1).size (.cells #[(1:Int),.slice A1 2 c1] 73));have lb:=B0.size;clear o1 b1 R0;obtain ⟨r0,r1,r2,r3⟩:=R1.two;go_wp2_with fail;have RB:=R1.out;have h1:=fun (wx:World) (h:Bx wx w 73 #[(0:Int),.slice none 0 0])=>(show Bx (wx.setCell ⟨w,0,none⟩ (.int .i64 1)) w 73 #[(1:Int),.slice none 0 0] by simpa using h.set_ 0 (.int .i64 1))
 with_reducible refine eD (v:=.tuple #[.agg #[(1:Int),.slice A1 2 c1],.bool true]) RB ?_ ?_ ⟨A1,c1,rfl,?_,?_⟩
 ·intro wS z0 z1;simp [results,Tryz.results164,go_sem,z0,z1]
 ·rfl
 ·exact KD
 ·exact ay B1.out zR _ _
theorem Vr (k:Int) (w:World) (hk:k=0\/k=1\/k=2) :
  Calls Tryz.prog 132 #[k] w fun e w'=>∃ A c,e=.returned (.slice A (dH k.toNat).length c)/\w'.ownsRow w 39 4 (.slice A (dH k.toNat).length c) (dH k.toNat).length (af (dH k.toNat))/\Below w w w':=by
 have hB:=Below.refl w w;rcases hk with rfl | rfl | rfl
 all_goals go_enter Tryz.func132,Tryz.ntmps132
 all_goals go_wp2_with (go_at_call 85;refine (jo _ _ _).mono ?_;rintro e w1 ⟨rfl,b1⟩;have hB:=aa hB b1)
 all_goals go_ret
 ·exact ⟨_,_,rfl,World.ownsRow_nil _ _ _ _,zW⟩
 ·exact KG
 ·exact KF
theorem Cp {p:Prop} (h:p:=by
  go_wp2_with fail;go_ret;exact ⟨cR (by rw [HC.out];rfl),B1.out⟩):p:=h
theorem Ox (m c:Nat) (A:Option Addr) (r:List Pq) (w:World) (hr:RdG w A m (dP 1 r)) (hmc:m<=c) (hok:ed 1 r) :
  Calls Tryz.prog 207 #[.agg #[(1:Int),.slice A m c]] w fun e w'=>e=.returned (.int .i64 (cr r:Nat))/\Below w w w':=by
 have hm:m=2:=by rw [<- hr.1,ep,hok.1]
 subst hm;obtain ⟨b,off,rfl⟩:=hr.first zO;have HW:=zH hr;have HR:=zH hok;obtain ⟨a0,ha0⟩:=aV (l:=r) (k:=0) (by rw [hok.1];omega);obtain ⟨a1,ha1⟩:=aV (l:=r) (k:=1) (by rw [hok.1];omega);have X0:=zH (Bx.new w 73 #[(1:Int),.slice (some ⟨b,off,none⟩) 2 c]);have B0:=zH (show Below w w (w.alloc (.cells #[(1:Int),.slice (some ⟨b,off,none⟩) 2 c] 73)) from (zW).alloc zR _);have HC:=zH (show cr r=(if a1.x=0 then 0 else if a0.x=0 then 1 else 2) by unfold cr;rw [List.getD_eq_getElem?_getD,List.getD_eq_getElem?_getD,ha0,ha1];rfl);have H0:=zH ha0;have H1:=zH ha1;clear hr hok ha0 ha1;go_enter Tryz.func207,Tryz.ntmps207;go_wp2_with fail;refine (my 1 2 c _ r _ zO (HW.below B0) HR).mono ?_;rintro e w1 ⟨rfl,b1⟩;have B1:=zH (aa B0 b1);have X1:=zH (X0.below b1);clear b1 X0;obtain ⟨x0,x1,_⟩:=X1.two;obtain ⟨_,_,u0,_,_⟩:=(HW.below B1.out).cellsAt (aE H0.out)
 obtain ⟨_,_,v0,_,_⟩:=(HW.below B1.out).cellsAt (aE H1.out);simp only [pg,Nat.zero_mul,Nat.one_mul,Nat.add_zero] at u0 v0;by_cases h1:a1.x=0
 ·have hb1:(((a1.x:Nat):Int) == 0)=true:=zJ;have HC:=zH (show cr r=0 by rw [HC.out,if_pos h1]);clear h1;exact Cp
 ·have hb1:(((a1.x:Nat):Int) == 0)=false:=zJ;by_cases h0:a0.x=0
  ·have hb0:(((a0.x:Nat):Int) == 0)=true:=zJ;have HC:=zH (show cr r=1 by rw [HC.out,if_neg h1,if_pos h0]);clear h1 h0;exact Cp
  ·have hb0:(((a0.x:Nat):Int) == 0)=false:=zJ;have HC:=zH (show cr r=2 by rw [HC.out,if_neg h1,if_neg h0]);clear h1 h0;exact Cp
def OwnW (w:World) (B:Nat) (A:Option Addr) (m c:Nat) (ws:List (List Gt)):Prop :=
 ws.length=m/\∃ vs:List Value,w.ownsRow B 24 1 (.slice A m c) m vs/\∀ (k:Nat) (x:List Gt),ws[k]? = some x->∃ D d,vs[k]? = some (.slice D x.length d)/\w.ownsRow B 39 4 (.slice D x.length d) x.length (af x)
def jC (vs:List Value):List Value:=vs.flatMap fun v=>[.int .i64 1,v]
def OwnT (w:World) (B:Nat) (A:Option Addr) (m c:Nat) (ts:List (List Pq)):Prop :=
 ts.length=m/\∃ vs:List Value,vs.length=m/\w.ownsRow B 73 2 (.slice A m c) m (jC vs)/\∀ (k:Nat) (t:List Pq),ts[k]? = some t->∃ D d,vs[k]? = some (.slice D 2 d)/\w.ownsRow B 151 4 (.slice D 2 d) 2 (af (dP 1 t))
theorem jD {w w':World} {b b':Nat} {e e':TypeId} {sz sz' n n':Nat} {v v':Value} {xs xs':List Value} (h:w.ownsRow b e sz v n xs) (h':w.ownsRow b' e' sz' v' n' xs') (hne:e ≠ e') (hg:w.grownBy w' v'.ownBlock):w'.ownsRow b e sz v n xs:=h.kept hg (lT h h' hne)
theorem tf:∀ (vs:List Value) (k:Nat) (v:Value),vs[k]? = some v->(jC vs)[k * 2]? = some (.int .i64 1)/\(jC vs)[k * 2+1]? = some v
 |[],k,v,h=>by simp at h
 |u :: r,0,v,h=>by
  simp only [List.getElem?_cons_zero,Option.some.injEq] at h;subst h;exact ⟨rfl,rfl⟩
 |u :: r,k+1,v,h=>by
  rw [List.getElem?_cons_succ] at h;obtain ⟨h1,h2⟩:=tf r k v h;have e:jC (u :: r)=.int .i64 1 :: u :: jC r:=rfl;rw [e,show (k+1) * 2=k * 2+1+1 by omega,List.getElem?_cons_succ,List.getElem?_cons_succ,List.getElem?_cons_succ,List.getElem?_cons_succ];exact ⟨h1,h2⟩
section
variable {w w':World} {B m c:Nat} {A:Option Addr} {ws:List (List Gt)} {ts:List (List Pq)}
theorem OwnW.below (h:OwnW w B A m c ws) (hb:Below w w w'):OwnW w' B A m c ws:=by
 obtain ⟨h1,vs,h2,h3⟩:=h;refine ⟨h1,vs,ab h2 hb,fun k x hx=>?_⟩;obtain ⟨D,d,a,b⟩:=h3 k x hx;exact ⟨D,d,a,ab b hb⟩
theorem OwnT.below (h:OwnT w B A m c ts) (hb:Below w w w'):OwnT w' B A m c ts:=by
 obtain ⟨h1,vs,h0,h2,h3⟩:=h;refine ⟨h1,vs,h0,ab h2 hb,fun k x hx=>?_⟩;obtain ⟨D,d,a,b⟩:=h3 k x hx;exact ⟨D,d,a,ab b hb⟩
theorem OwnW.alloc (h:OwnW w B A m c ws) (o:Obj):OwnW (w.alloc o) B A m c ws:=h.below ((zW).alloc zR _)
theorem OwnT.alloc (h:OwnT w B A m c ts) (o:Obj):OwnT (w.alloc o) B A m c ts:=h.below ((zW).alloc zR _)
theorem OwnW.drew (h:OwnW w B A m c ws):OwnW w.drew B A m c ws:=h.below (zW).drew
theorem OwnT.drew (h:OwnT w B A m c ts):OwnT w.drew B A m c ts:=h.below (zW).drew
theorem OwnW.cap (h:OwnW w B A m c ws):m<=c:=by obtain ⟨_,vs,h2,_⟩:=h;exact ao h2
theorem OwnT.cap (h:OwnT w B A m c ts):m<=c:=by obtain ⟨_,vs,_,h2,_⟩:=h;exact ao h2
theorem OwnW.at_ (h:OwnW w B A m c ws) {k:Nat} {x:List Gt} (hk:ws[k]? = some x):∃ b off D d,A=some ⟨b,off,none⟩/\b < w.heap.size/\w.cell? ⟨b,off+k,none⟩=some (.slice D x.length d)/\w.ownsRow B 39 4 (.slice D x.length d) x.length (af x):=by
 obtain ⟨h1,vs,h2,h3⟩:=h;obtain ⟨D,d,a,o⟩:=h3 k x hk;have hlt:=(List.getElem?_eq_some_iff.1 hk).1;obtain ⟨b,off,e,hb,hc⟩:=(Rd.own h2).2 zO;exact ⟨b,off,D,d,e,hb,hc _ _ a,o⟩
theorem OwnT.at_ (h:OwnT w B A m c ts) {k:Nat} {t:List Pq} (hk:ts[k]? = some t):∃ b off D d,A=some ⟨b,off,none⟩/\b < w.heap.size/\w.cell? ⟨b,off+k * 2,none⟩=some (.int .i64 1)/\w.cell? ⟨b,off+k * 2+1,none⟩=some (.slice D 2 d)/\w.ownsRow B 151 4 (.slice D 2 d) 2 (af (dP 1 t)):=by
 obtain ⟨h1,vs,h0,h2,h3⟩:=h;obtain ⟨D,d,a,o⟩:=h3 k t hk;have hlt:=(List.getElem?_eq_some_iff.1 hk).1;obtain ⟨b,off,e,hb,hc⟩:=(Rd.own h2).2 zO;obtain ⟨c1,c2⟩:=tf vs k _ a;exact ⟨b,off,D,d,e,hb,hc _ _ c1,by rw [Nat.add_assoc];exact hc _ _ c2,o⟩
theorem OwnW.grown (h:OwnW w B A m c ws) {b':Nat} {e':TypeId} {sz' n':Nat} {v':Value} {xs':List Value} (h':w.ownsRow b' e' sz' v' n' xs') (n1:24 ≠ e') (n2:39 ≠ e') (hg:w.grownBy w' v'.ownBlock):OwnW w' B A m c ws:=by
 obtain ⟨h1,vs,h2,h3⟩:=h;refine ⟨h1,vs,jD h2 h' n1 hg,fun k x hx=>?_⟩;obtain ⟨D,d,a,b⟩:=h3 k x hx;exact ⟨D,d,a,jD b h' n2 hg⟩
theorem OwnT.grown (h:OwnT w B A m c ts) {b':Nat} {e':TypeId} {sz' n':Nat} {v':Value} {xs':List Value} (h':w.ownsRow b' e' sz' v' n' xs') (n1:73 ≠ e') (n2:151 ≠ e') (hg:w.grownBy w' v'.ownBlock):OwnT w' B A m c ts:=by
 obtain ⟨h1,vs,h0,h2,h3⟩:=h;refine ⟨h1,vs,h0,jD h2 h' n1 hg,fun k x hx=>?_⟩;obtain ⟨D,d,a,b⟩:=h3 k x hx;exact ⟨D,d,a,jD b h' n2 hg⟩
theorem KH {p:Prop} (h:p:=by
  rw [List.getElem?_append_left zO] at hy;obtain ⟨D',d',a,o⟩:=hi k y hy;exact ⟨D',d',by rw [List.getElem?_append_left zO];exact a,jD o hv zD hg⟩):p:=h
theorem OwnW.push {A5 D:Option Addr} {c5 d:Nat} {w5:World} {vs:List Value} {x:List Gt} (hl:ws.length=m) (hv:w.ownsRow B 24 1 (.slice A m c) m vs) (hi:∀ (k:Nat) (x:List Gt),ws[k]? = some x->∃ D d,vs[k]? = some (.slice D x.length d)/\w.ownsRow B 39 4 (.slice D x.length d) x.length (af x))
  (hx:w.ownsRow B 39 4 (.slice D x.length d) x.length (af x)) (hg:w.grownBy w5 (Value.slice A m c).ownBlock) (ho:w5.ownsRow B 24 1 (.slice A5 (m+1) c5) (m+1) (vs++[.slice D x.length d])):OwnW w5 B A5 (m+1) c5 (ws++[x]):=by
 have hvl:vs.length=m:=by have:=hv.1;omega
 refine ⟨by simp [hl],_,ho,fun k y hy=>?_⟩;by_cases hk:k < m
 ·exact KH
 ·have hk2:=(List.getElem?_eq_some_iff.1 hy).1;simp at hk2;obtain rfl:k=m:=zO;rw [List.getElem?_append_right zO,hl,Nat.sub_self] at hy;injection hy with hy;subst hy
  exact ⟨D,d,by rw [List.getElem?_append_right zO,hvl,Nat.sub_self];rfl,jD hx hv zD hg⟩
theorem OwnT.push {A5 D:Option Addr} {c5 d:Nat} {w5:World} {vs:List Value} {t:List Pq} (hl:ts.length=m) (h0:vs.length=m) (hv:w.ownsRow B 73 2 (.slice A m c) m (jC vs)) (hi:∀ (k:Nat) (t:List Pq),ts[k]? = some t->∃ D d,vs[k]? = some (.slice D 2 d)/\w.ownsRow B 151 4 (.slice D 2 d) 2 (af (dP 1 t)))
  (hx:w.ownsRow B 151 4 (.slice D 2 d) 2 (af (dP 1 t))) (hg:w.grownBy w5 (Value.slice A m c).ownBlock) (ho:w5.ownsRow B 73 2 (.slice A5 (m+1) c5) (m+1) (jC vs++[.int .i64 1,.slice D 2 d])):OwnT w5 B A5 (m+1) c5 (ts++[t]):=by
 refine ⟨by simp [hl],vs++[.slice D 2 d],by simp [h0],by unfold jC at ho ⊢;rw [List.flatMap_append];exact ho,fun k y hy=>?_⟩;by_cases hk:k < m
 ·exact KH
 ·have hk2:=(List.getElem?_eq_some_iff.1 hy).1;simp at hk2;obtain rfl:k=m:=zO;rw [List.getElem?_append_right zO,hl,Nat.sub_self] at hy;injection hy with hy;subst hy
  exact ⟨D,d,by rw [List.getElem?_append_right zO,h0,Nat.sub_self];rfl,jD hx hv zD hg⟩
end
theorem KI:(Tryz.prog.info? 73).map (fun i=>(i.zero,i.size,i.bytes))=some (some (.agg #[(0:Int),.slice none 0 0]),2,32):=zK
theorem tg:(Tryz.prog.info? 24).map (fun i=>(i.zero,i.size,i.bytes))=some (some (.slice none 0 0),1,24):=zK
def jb (u:List Pq):Nat->List (List Pq)->Int
 |_,[]=>-1
 |k,t :: r=>if t=u then (k:Int) else jb u (k+1) r
theorem Cq {u:List Pq} {ts:List (List Pq)} {k:Nat} {t:List Pq} (h:ts[k]? = some t):jb u k (ts.drop k)=if t=u then (k:Int) else jb u (k+1) (ts.drop (k+1)):=by
 obtain ⟨hk,e⟩:=List.getElem?_eq_some_iff.1 h;rw [ax hk,e,jb]
theorem th (B m c d:Nat) (A D:Option Addr) (ts:List (List Pq)) (u:List Pq) (w:World) (h:OwnT w B A m c ts) (hm:m<=1000) (hu:RdG w D 2 (dP 1 u)) :
  Calls Tryz.prog 181 #[.slice A m c,.agg #[(1:Int),.slice D 2 d]] w fun e w'=>e=.returned (.int .i64 (jb u 0 ts))/\Below w w w':=by
 have H:=zH h;have HU:=zH hu;have X0:=zH (Bx.new w 73 #[(1:Int),.slice D 2 d]);have B0:=zH (show Below w w (w.alloc (.cells #[(1:Int),.slice D 2 d] 73)) from (zW).alloc zR _);obtain ⟨F,hF⟩:∃ F,jb u 0 ts=F:=⟨_,rfl⟩;have HF:=zH (show jb u 0 (ts.drop 0)=F from hF);rw [hF];clear h hu hF;go_enter Tryz.func181,Tryz.ntmps181;go_wp2_with fail;go_loopg [5] m (fun g i wr=>∃ (k:Nat),k+g=m/\i=.int .i64 k/\jb u k (ts.drop k)=F/\Bx wr w 73 #[(1:Int),.slice D 2 d]/\Below w w wr)
 case atStart=>exact ⟨0,zO,rfl,HF.out,X0.out,B0.out⟩
 case round =>
  clear HF X0 B0;obtain ⟨k,hk,rfl,hf,hx,hb⟩:=hrel;have HX:=zH hx;have HB:=zH hb;by_cases hlt:k < m
  ·obtain ⟨t,ht⟩:=aV (l:=ts) (k:=k) (by rw [H.out.1];exact hlt);have HT:=zH (show (if t=u then (k:Int) else jb u (k+1) (ts.drop (k+1)))=F by rw [<- hf];exact (Cq ht).symm);obtain ⟨b,off,D',d',rfl,hbl,y0,y1,o1⟩:=(H.below hb).at_ ht;have O1:=zH o1;obtain ⟨x0,x1,_⟩:=hx.drew.two;have y0':wr.drew.cell? ⟨b,off+k * 2,none⟩=some (.int .i64 1):=y0;have y1':wr.drew.cell? ⟨b,off+k * 2+1,none⟩=some (.slice D' 2 d'):=y1;have km:(k:Int) < (m:Int):=zO;clear hf ht o1 hx hb;by_cases htu:t=u
   ·have hdd:decide (t=u)=true:=by simpa using htu
    have HE:=zH (show (k:Int)=F by have:=HT.out;rwa [if_pos htu] at this);have HD:=zH hdd;clear htu hdd HT;go_upto_region 4 with fail
    go_region_with (first
     |(go_at_call 210;refine (DE 1 2 d' d D' D t u _ (RdG.own O1.out).drew (HU.below HB.out).drew zO).mono ?_;rintro e w5 ⟨rfl,b5⟩;rw [HD.out])
     |fail)
    all_goals go_wp2_with fail
    all_goals go_ret
    all_goals exact ⟨cR (by rw [HE.out]),aa HB.out (aC b5)⟩
   ·have hdd:decide (t=u)=false:=by simpa using htu
    have HE:=zH (show jb u (k+1) (ts.drop (k+1))=F by have:=HT.out;rwa [if_neg htu] at this);have HD:=zH hdd;clear htu hdd HT;go_upto_region 4 with fail
    go_region_with (first
     |(go_at_call 210;refine (DE 1 2 d' d D' D t u _ (RdG.own O1.out).drew (HU.below HB.out).drew zO).mono ?_;rintro e w5 ⟨rfl,b5⟩;rw [HD.out])
     |fail)
    all_goals go_wp2_with fail
    all_goals go_roundg (gk - 1)
    all_goals first
     |omega
     |exact ⟨k+1,zO,by go_num,HE.out,HX.below (aC b5),aa HB.out (aC b5)⟩
  ·have hf':(-1:Int)=F:=by rw [List.drop_eq_nil_of_le (by rw [H.out.1];omega)] at hf;exact hf
   have HE:=zH hf';clear hf hf' hx hb;go_wp2_with fail;go_ret;exact ⟨cR (by rw [HE.out]),HB.out⟩
end Go.Proofs.YtmenmibfkojnoaaGreat
