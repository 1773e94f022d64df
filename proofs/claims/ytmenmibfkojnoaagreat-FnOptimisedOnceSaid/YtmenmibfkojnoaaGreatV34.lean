/- Contracts of WordTableau, CosetRepresentative and CosetIndex (spec and impl), for words of Clifford gates on one qubit and valid tables. Lists of words and of tables of one qubit in memory; plain facts on the search of the 24 words; contract of l29Find (spec). -/
import Derived.Test.YtmenmibfkojnoaaGreatV33
import Derived.Test.YtmenmibfkojnoaaGreatV20
import Derived.Test.YtmenmibfkojnoaaGreatV27
set_option maxHeartbeats 16000000
namespace Go.Proofs.YtmenmibfkojnoaaGreat
open Go.RowKit
set_option linter.unusedVariables false
abbrev RetT1 (r:List Pq) (w:World) (e:Ending) (w':World):Prop :=
 ∃ A c,e=.returned (.tuple #[.agg #[.int .i64 1,.slice A 2 c],.bool true])/\w'.ownsRow w.heap.size 151 4 (.slice A 2 c) 2 (cellsG (pgs 1 r))/\Below w.heap.size w w'
abbrev RetT2 (r:List Pq) (w:World) (e:Ending) (w':World):Prop :=
 ∃ A c,e=.returned (.agg #[.int .i64 1,.slice A 2 c])/\w'.ownsRow w.heap.size 151 4 (.slice A 2 c) 2 (cellsG (pgs 1 r))/\Below w.heap.size w w'
theorem RetT1.of {r:List Pq} {w w':World} {e:Ending} (h:RetTab 1 (2 * 1) r w e w'):RetT1 r w e w':=h
theorem RetT2.of {r:List Pq} {w w':World} {e:Ending} (h:RetTab1 1 (2 * 1) r w e w'):RetT2 r w e w':=h
set_option maxRecDepth 100000 in
theorem s_WordTab (m c:Nat) (A:Option Addr) (l:List Gt) (w:World) (hr:RdG w A m l) (hm:m<=60) (hl:∀ g ∈ l,okN 1 g=true/\cliff g.k=true) :
  Calls Tryz.prog 208 #[.slice A m c] w (RetT1 (runT 1 l (idT 1)) w):=by
 have R0:=zH (Bx.new w 73 #[.int .i64 0,.slice none 0 0])
 have B0:=zH (show Below w.heap.size w (w.alloc (.cells #[.int .i64 0,.slice none 0 0] 73)) from (zW).alloc zR _)
 have HW:=zH hr
 have HL:=zH hl
 clear hr hl
 go_enter Tryz.func208,Tryz.ntmps208
 go_wp2_with fail
 refine (s_CirTab 1 m c A l _ (by omega) (HW.out.below B0.out) hm HL.out idT1_ok).mono ?_
 intro e w1 hret
 obtain ⟨A1,c1,rfl,o1,b1⟩:=RetT1.of hret
 clear hret
 have O1:=zH o1
 have R1:=zH (R0.out.below b1)
 have B1:=zH (below_trans B0.out b1)
 have lb:=B0.out.size
 clear o1 b1 R0
 obtain ⟨r0,r1,r2,r3⟩:=R1.out.two
 go_wp2_with fail
 have RB:=R1.out
 have h1:=fun (wx:World) (h:Bx wx w.heap.size 73 #[.int .i64 0,.slice none 0 0])=>(show Bx (wx.setCell ⟨w.heap.size,0,none⟩ (.int .i64 1)) w.heap.size 73 #[.int .i64 1,.slice none 0 0] by simpa using h.set_ 0 (.int .i64 1))
 with_reducible refine ret_S2 (v:=.tuple #[.agg #[.int .i64 1,.slice A1 2 c1],.bool true]) RB ?_ ?_ ⟨A1,c1,rfl,?_,?_⟩
 ·intro wS z0 z1;simp [results,Tryz.results208,go_sem,z0,z1]
 ·rfl
 ·exact ownsRow_base (own_farT (own_farT O1.out RB (by decide) 0 _) (h1 _ RB) (by decide) 1 _) lb
 ·exact belowS2 B1.out zR _ _
theorem s_Rep (k:Int) (w:World) (hk:k=0 ∨ k=1 ∨ k=2) :
  Calls Tryz.prog 146 #[.int .i64 k] w fun e w'=>∃ A c,e=.returned (.slice A (rep k.toNat).length c)/\w'.ownsRow w.heap.size 39 4 (.slice A (rep k.toNat).length c) (rep k.toNat).length (cellsG (rep k.toNat))/\Below w.heap.size w w':=by
 have hB:=Below.refl w.heap.size w
 rcases hk with rfl | rfl | rfl
 all_goals go_enter Tryz.func146,Tryz.ntmps146
 all_goals go_wp2_with (go_at_call 106;refine (s_one _ _ _).mono ?_;rintro e w1 ⟨rfl,b1⟩;have hB:=below_trans hB b1)
 all_goals go_ret
 ·exact ⟨_,_,rfl,World.ownsRow_lit w #[] 0 zR (by simp [maxLen]) rfl,(zW).alloc zR _⟩
 ·exact ⟨_,_,rfl,World.ownsRow_lit _ #[.int .i64 4,.int .i64 0,.int .i64 0,.int .i64 0] 1 hB.size (by simp [maxLen]) rfl,hB.alloc hB.size _⟩
 ·exact ⟨_,_,rfl,World.ownsRow_lit _ #[.int .i64 6,.int .i64 0,.int .i64 0,.int .i64 0,.int .i64 4,.int .i64 0,.int .i64 0,.int .i64 0] 2 hB.size (by simp [maxLen]) rfl,hB.alloc hB.size _⟩
set_option maxRecDepth 100000 in
theorem i_WordTab (m c:Nat) (A:Option Addr) (l:List Gt) (w:World) (hr:RdG w A m l) (hm:m<=60) (hl:∀ g ∈ l,okN 1 g=true/\cliff g.k=true) :
  Calls Tryz.prog 164 #[.slice A m c] w (RetT1 (runT 1 l (idT 1)) w):=by
 have R0:=zH (Bx.new w 73 #[.int .i64 0,.slice none 0 0])
 have B0:=zH (show Below w.heap.size w (w.alloc (.cells #[.int .i64 0,.slice none 0 0] 73)) from (zW).alloc zR _)
 have HW:=zH hr
 have HL:=zH hl
 clear hr hl
 go_enter Tryz.func164,Tryz.ntmps164
 go_wp2_with fail
 refine (i_CirTab 1 m c A l _ (by omega) (HW.out.below B0.out) hm HL.out idT1_ok).mono ?_
 intro e w1 hret
 obtain ⟨A1,c1,rfl,o1,b1⟩:=RetT1.of hret
 clear hret
 have O1:=zH (o1.alloc (.cells #[.int .i64 1,.slice A1 2 c1] 73))
 have R1:=zH ((R0.out.below b1).alloc (.cells #[.int .i64 1,.slice A1 2 c1] 73))
 have B1:=zH ((below_trans B0.out b1).alloc (below_trans B0.out b1).size (.cells #[.int .i64 1,.slice A1 2 c1] 73))
 have lb:=B0.out.size
 clear o1 b1 R0
 obtain ⟨r0,r1,r2,r3⟩:=R1.out.two
 go_wp2_with fail
 have RB:=R1.out
 have h1:=fun (wx:World) (h:Bx wx w.heap.size 73 #[.int .i64 0,.slice none 0 0])=>(show Bx (wx.setCell ⟨w.heap.size,0,none⟩ (.int .i64 1)) w.heap.size 73 #[.int .i64 1,.slice none 0 0] by simpa using h.set_ 0 (.int .i64 1))
 with_reducible refine ret_S2 (v:=.tuple #[.agg #[.int .i64 1,.slice A1 2 c1],.bool true]) RB ?_ ?_ ⟨A1,c1,rfl,?_,?_⟩
 ·intro wS z0 z1;simp [results,Tryz.results164,go_sem,z0,z1]
 ·rfl
 ·exact ownsRow_base (own_farT (own_farT O1.out RB (by decide) 0 _) (h1 _ RB) (by decide) 1 _) lb
 ·exact belowS2 B1.out zR _ _
theorem i_Rep (k:Int) (w:World) (hk:k=0 ∨ k=1 ∨ k=2) :
  Calls Tryz.prog 132 #[.int .i64 k] w fun e w'=>∃ A c,e=.returned (.slice A (rep k.toNat).length c)/\w'.ownsRow w.heap.size 39 4 (.slice A (rep k.toNat).length c) (rep k.toNat).length (cellsG (rep k.toNat))/\Below w.heap.size w w':=by
 have hB:=Below.refl w.heap.size w
 rcases hk with rfl | rfl | rfl
 all_goals go_enter Tryz.func132,Tryz.ntmps132
 all_goals go_wp2_with (go_at_call 85;refine (i_one _ _ _).mono ?_;rintro e w1 ⟨rfl,b1⟩;have hB:=below_trans hB b1)
 all_goals go_ret
 ·exact ⟨_,_,rfl,World.ownsRow_nil _ _ _ _,zW⟩
 ·exact ⟨_,_,rfl,World.ownsRow_lit _ #[.int .i64 4,.int .i64 0,.int .i64 0,.int .i64 0] 1 hB.size (by simp [maxLen]) rfl,hB.alloc hB.size _⟩
 ·exact ⟨_,_,rfl,World.ownsRow_lit _ #[.int .i64 6,.int .i64 0,.int .i64 0,.int .i64 0,.int .i64 4,.int .i64 0,.int .i64 0,.int .i64 0] 2 hB.size (by simp [maxLen]) rfl,hB.alloc hB.size _⟩
set_option maxRecDepth 100000 in
theorem s_Coset (m c:Nat) (A:Option Addr) (r:List Pq) (w:World) (hr:RdG w A m (pgs 1 r)) (hmc:m<=c) (hok:okT 1 r) :
  Calls Tryz.prog 207 #[.agg #[.int .i64 1,.slice A m c]] w fun e w'=>e=.returned (.int .i64 (coset r:Nat))/\Below w.heap.size w w':=by
 have hm:m=2:=by rw [<- hr.1,pgs_len,hok.1]
 subst hm
 obtain ⟨b,off,rfl⟩:=hr.first (by omega)
 have HW:=zH hr
 have HR:=zH hok
 obtain ⟨a0,ha0⟩:=get_lt (l:=r) (k:=0) (by rw [hok.1];omega)
 obtain ⟨a1,ha1⟩:=get_lt (l:=r) (k:=1) (by rw [hok.1];omega)
 have X0:=zH (Bx.new w 73 #[.int .i64 1,.slice (some ⟨b,off,none⟩) 2 c])
 have B0:=zH (show Below w.heap.size w (w.alloc (.cells #[.int .i64 1,.slice (some ⟨b,off,none⟩) 2 c] 73)) from (zW).alloc zR _)
 have HC:=zH (show coset r=(if a1.x=0 then 0 else if a0.x=0 then 1 else 2) by unfold coset;rw [List.getD_eq_getElem?_getD,List.getD_eq_getElem?_getD,ha0,ha1];rfl)
 have H0:=zH ha0
 have H1:=zH ha1
 clear hr hok ha0 ha1
 go_enter Tryz.func207,Tryz.ntmps207
 go_wp2_with fail
 refine (s_IsTab 1 2 c _ r _ (by omega) (HW.out.below B0.out) HR.out).mono ?_
 rintro e w1 ⟨rfl,b1⟩
 have B1:=zH (below_trans B0.out b1)
 have X1:=zH (X0.out.below b1)
 clear b1 X0
 obtain ⟨x0,x1,_⟩:=X1.out.two
 obtain ⟨_,_,u0,_,_⟩:=(HW.out.below B1.out).cellsAt (pgs_drop H0.out)
 obtain ⟨_,_,v0,_,_⟩:=(HW.out.below B1.out).cellsAt (pgs_drop H1.out)
 simp only [pg,Nat.zero_mul,Nat.one_mul,Nat.add_zero] at u0 v0
 by_cases h1:a1.x=0
 ·have hb1:(((a1.x:Nat):Int) == 0)=true:=by simp;omega
  have HC:=zH (show coset r=0 by rw [HC.out,if_pos h1])
  clear h1
  go_wp2_with fail
  go_ret
  exact ⟨ret_int (by rw [HC.out];rfl),B1.out⟩
 ·have hb1:(((a1.x:Nat):Int) == 0)=false:=by simp;omega
  by_cases h0:a0.x=0
  ·have hb0:(((a0.x:Nat):Int) == 0)=true:=by simp;omega
   have HC:=zH (show coset r=1 by rw [HC.out,if_neg h1,if_pos h0])
   clear h1 h0
   go_wp2_with fail
   go_ret
   exact ⟨ret_int (by rw [HC.out];rfl),B1.out⟩
  ·have hb0:(((a0.x:Nat):Int) == 0)=false:=by simp;omega
   have HC:=zH (show coset r=2 by rw [HC.out,if_neg h1,if_neg h0])
   clear h1 h0
   go_wp2_with fail
   go_ret
   exact ⟨ret_int (by rw [HC.out];rfl),B1.out⟩
def OwnW (w:World) (B:Nat) (A:Option Addr) (m c:Nat) (ws:List (List Gt)):Prop :=
 ws.length=m/\∃ vs:List Value,w.ownsRow B 24 1 (.slice A m c) m vs/\∀ (k:Nat) (x:List Gt),ws[k]? = some x->∃ D d,vs[k]? = some (.slice D x.length d)/\w.ownsRow B 39 4 (.slice D x.length d) x.length (cellsG x)
def cellsTb (vs:List Value):List Value:=vs.flatMap fun v=>[.int .i64 1,v]
def OwnT (w:World) (B:Nat) (A:Option Addr) (m c:Nat) (ts:List (List Pq)):Prop :=
 ts.length=m/\∃ vs:List Value,vs.length=m/\w.ownsRow B 73 2 (.slice A m c) m (cellsTb vs)/\∀ (k:Nat) (t:List Pq),ts[k]? = some t->∃ D d,vs[k]? = some (.slice D 2 d)/\w.ownsRow B 151 4 (.slice D 2 d) 2 (cellsG (pgs 1 t))
theorem kept_ne {w w':World} {b b':Nat} {e e':TypeId} {sz sz' n n':Nat} {v v':Value} {xs xs':List Value} (h:w.ownsRow b e sz v n xs) (h':w.ownsRow b' e' sz' v' n' xs') (hne:e ≠ e') (hg:w.grownBy w' v'.ownBlock):w'.ownsRow b e sz v n xs:=h.kept hg (own_own_neT h h' hne)
theorem cellsTb_at:∀ (vs:List Value) (k:Nat) (v:Value),vs[k]? = some v->(cellsTb vs)[k * 2]? = some (.int .i64 1)/\(cellsTb vs)[k * 2+1]? = some v
 |[],k,v,h=>by simp at h
 |u :: r,0,v,h=>by
  simp only [List.getElem?_cons_zero,Option.some.injEq] at h
  subst h
  exact ⟨rfl,rfl⟩
 |u :: r,k+1,v,h=>by
  rw [List.getElem?_cons_succ] at h
  obtain ⟨h1,h2⟩:=cellsTb_at r k v h
  have e:cellsTb (u :: r)=.int .i64 1 :: u :: cellsTb r:=rfl
  rw [e,show (k+1) * 2=k * 2+1+1 by omega,List.getElem?_cons_succ,List.getElem?_cons_succ,List.getElem?_cons_succ,List.getElem?_cons_succ]
  exact ⟨h1,h2⟩
section
variable {w w':World} {B m c:Nat} {A:Option Addr} {ws:List (List Gt)} {ts:List (List Pq)}
theorem OwnW.below (h:OwnW w B A m c ws) (hb:Below w.heap.size w w'):OwnW w' B A m c ws:=by
 obtain ⟨h1,vs,h2,h3⟩:=h
 refine ⟨h1,vs,ownsRow_below h2 hb,fun k x hx=>?_⟩
 obtain ⟨D,d,a,b⟩:=h3 k x hx
 exact ⟨D,d,a,ownsRow_below b hb⟩
theorem OwnT.below (h:OwnT w B A m c ts) (hb:Below w.heap.size w w'):OwnT w' B A m c ts:=by
 obtain ⟨h1,vs,h0,h2,h3⟩:=h
 refine ⟨h1,vs,h0,ownsRow_below h2 hb,fun k x hx=>?_⟩
 obtain ⟨D,d,a,b⟩:=h3 k x hx
 exact ⟨D,d,a,ownsRow_below b hb⟩
theorem OwnW.alloc (h:OwnW w B A m c ws) (o:Obj):OwnW (w.alloc o) B A m c ws:=h.below ((zW).alloc zR _)
theorem OwnT.alloc (h:OwnT w B A m c ts) (o:Obj):OwnT (w.alloc o) B A m c ts:=h.below ((zW).alloc zR _)
theorem OwnW.drew (h:OwnW w B A m c ws):OwnW w.drew B A m c ws:=h.below (zW).drew
theorem OwnT.drew (h:OwnT w B A m c ts):OwnT w.drew B A m c ts:=h.below (zW).drew
theorem OwnW.cap (h:OwnW w B A m c ws):m<=c:=by obtain ⟨_,vs,h2,_⟩:=h;exact ownsRow_cap h2
theorem OwnT.cap (h:OwnT w B A m c ts):m<=c:=by obtain ⟨_,vs,_,h2,_⟩:=h;exact ownsRow_cap h2
theorem OwnW.at_ (h:OwnW w B A m c ws) {k:Nat} {x:List Gt} (hk:ws[k]? = some x):∃ b off D d,A=some ⟨b,off,none⟩/\b < w.heap.size/\w.cell? ⟨b,off+k,none⟩=some (.slice D x.length d)/\w.ownsRow B 39 4 (.slice D x.length d) x.length (cellsG x):=by
 obtain ⟨h1,vs,h2,h3⟩:=h
 obtain ⟨D,d,a,o⟩:=h3 k x hk
 have hlt:=(List.getElem?_eq_some_iff.1 hk).1
 obtain ⟨b,off,e,hb,hc⟩:=(Rd.own h2).2 (by omega)
 exact ⟨b,off,D,d,e,hb,hc _ _ a,o⟩
theorem OwnT.at_ (h:OwnT w B A m c ts) {k:Nat} {t:List Pq} (hk:ts[k]? = some t):∃ b off D d,A=some ⟨b,off,none⟩/\b < w.heap.size/\w.cell? ⟨b,off+k * 2,none⟩=some (.int .i64 1)/\w.cell? ⟨b,off+k * 2+1,none⟩=some (.slice D 2 d)/\w.ownsRow B 151 4 (.slice D 2 d) 2 (cellsG (pgs 1 t)):=by
 obtain ⟨h1,vs,h0,h2,h3⟩:=h
 obtain ⟨D,d,a,o⟩:=h3 k t hk
 have hlt:=(List.getElem?_eq_some_iff.1 hk).1
 obtain ⟨b,off,e,hb,hc⟩:=(Rd.own h2).2 (by omega)
 obtain ⟨c1,c2⟩:=cellsTb_at vs k _ a
 exact ⟨b,off,D,d,e,hb,hc _ _ c1,by rw [Nat.add_assoc];exact hc _ _ c2,o⟩
theorem OwnW.grown (h:OwnW w B A m c ws) {b':Nat} {e':TypeId} {sz' n':Nat} {v':Value} {xs':List Value} (h':w.ownsRow b' e' sz' v' n' xs') (n1:24 ≠ e') (n2:39 ≠ e') (hg:w.grownBy w' v'.ownBlock):OwnW w' B A m c ws:=by
 obtain ⟨h1,vs,h2,h3⟩:=h
 refine ⟨h1,vs,kept_ne h2 h' n1 hg,fun k x hx=>?_⟩
 obtain ⟨D,d,a,b⟩:=h3 k x hx
 exact ⟨D,d,a,kept_ne b h' n2 hg⟩
theorem OwnT.grown (h:OwnT w B A m c ts) {b':Nat} {e':TypeId} {sz' n':Nat} {v':Value} {xs':List Value} (h':w.ownsRow b' e' sz' v' n' xs') (n1:73 ≠ e') (n2:151 ≠ e') (hg:w.grownBy w' v'.ownBlock):OwnT w' B A m c ts:=by
 obtain ⟨h1,vs,h0,h2,h3⟩:=h
 refine ⟨h1,vs,h0,kept_ne h2 h' n1 hg,fun k x hx=>?_⟩
 obtain ⟨D,d,a,b⟩:=h3 k x hx
 exact ⟨D,d,a,kept_ne b h' n2 hg⟩
theorem OwnW.push {A5 D:Option Addr} {c5 d:Nat} {w5:World} {vs:List Value} {x:List Gt} (hl:ws.length=m) (hv:w.ownsRow B 24 1 (.slice A m c) m vs) (hi:∀ (k:Nat) (x:List Gt),ws[k]? = some x->∃ D d,vs[k]? = some (.slice D x.length d)/\w.ownsRow B 39 4 (.slice D x.length d) x.length (cellsG x))
  (hx:w.ownsRow B 39 4 (.slice D x.length d) x.length (cellsG x)) (hg:w.grownBy w5 (Value.slice A m c).ownBlock) (ho:w5.ownsRow B 24 1 (.slice A5 (m+1) c5) (m+1) (vs++[.slice D x.length d])):OwnW w5 B A5 (m+1) c5 (ws++[x]):=by
 have hvl:vs.length=m:=by have:=hv.1;omega
 refine ⟨by simp [hl],_,ho,fun k y hy=>?_⟩
 by_cases hk:k < m
 ·rw [List.getElem?_append_left (by omega)] at hy
  obtain ⟨D',d',a,o⟩:=hi k y hy
  exact ⟨D',d',by rw [List.getElem?_append_left (by omega)];exact a,kept_ne o hv (by decide) hg⟩
 ·have hk2:=(List.getElem?_eq_some_iff.1 hy).1
  simp at hk2
  obtain rfl:k=m:=by omega
  rw [List.getElem?_append_right (by omega),hl,Nat.sub_self] at hy
  injection hy with hy
  subst hy
  exact ⟨D,d,by rw [List.getElem?_append_right (by omega),hvl,Nat.sub_self];rfl,kept_ne hx hv (by decide) hg⟩
theorem OwnT.push {A5 D:Option Addr} {c5 d:Nat} {w5:World} {vs:List Value} {t:List Pq} (hl:ts.length=m) (h0:vs.length=m) (hv:w.ownsRow B 73 2 (.slice A m c) m (cellsTb vs)) (hi:∀ (k:Nat) (t:List Pq),ts[k]? = some t->∃ D d,vs[k]? = some (.slice D 2 d)/\w.ownsRow B 151 4 (.slice D 2 d) 2 (cellsG (pgs 1 t)))
  (hx:w.ownsRow B 151 4 (.slice D 2 d) 2 (cellsG (pgs 1 t))) (hg:w.grownBy w5 (Value.slice A m c).ownBlock) (ho:w5.ownsRow B 73 2 (.slice A5 (m+1) c5) (m+1) (cellsTb vs++[.int .i64 1,.slice D 2 d])):OwnT w5 B A5 (m+1) c5 (ts++[t]):=by
 refine ⟨by simp [hl],vs++[.slice D 2 d],by simp [h0],by unfold cellsTb at ho ⊢;rw [List.flatMap_append];exact ho,fun k y hy=>?_⟩
 by_cases hk:k < m
 ·rw [List.getElem?_append_left (by omega)] at hy
  obtain ⟨D',d',a,o⟩:=hi k y hy
  exact ⟨D',d',by rw [List.getElem?_append_left (by omega)];exact a,kept_ne o hv (by decide) hg⟩
 ·have hk2:=(List.getElem?_eq_some_iff.1 hy).1
  simp at hk2
  obtain rfl:k=m:=by omega
  rw [List.getElem?_append_right (by omega),hl,Nat.sub_self] at hy
  injection hy with hy
  subst hy
  exact ⟨D,d,by rw [List.getElem?_append_right (by omega),h0,Nat.sub_self];rfl,kept_ne hx hv (by decide) hg⟩
end
theorem infoTb:(Tryz.prog.info? 73).map (fun i=>(i.zero,i.size,i.bytes))=some (some (.agg #[.int .i64 0,.slice none 0 0]),2,32):=by kernel_rfl
theorem infoGs:(Tryz.prog.info? 24).map (fun i=>(i.zero,i.size,i.bytes))=some (some (.slice none 0 0),1,24):=by kernel_rfl
def findT (u:List Pq):Nat->List (List Pq)->Int
 |_,[]=>-1
 |k,t :: r=>if t=u then (k:Int) else findT u (k+1) r
theorem findT_step {u:List Pq} {ts:List (List Pq)} {k:Nat} {t:List Pq} (h:ts[k]? = some t):findT u k (ts.drop k)=if t=u then (k:Int) else findT u (k+1) (ts.drop (k+1)):=by
 obtain ⟨hk,e⟩:=List.getElem?_eq_some_iff.1 h
 rw [drop_cons hk,e,findT]
set_option maxRecDepth 100000 in
theorem s_Find (B m c d:Nat) (A D:Option Addr) (ts:List (List Pq)) (u:List Pq) (w:World) (h:OwnT w B A m c ts) (hm:m<=1000) (hu:RdG w D 2 (pgs 1 u)) :
  Calls Tryz.prog 181 #[.slice A m c,.agg #[.int .i64 1,.slice D 2 d]] w fun e w'=>e=.returned (.int .i64 (findT u 0 ts))/\Below w.heap.size w w':=by
 have H:=zH h
 have HU:=zH hu
 have X0:=zH (Bx.new w 73 #[.int .i64 1,.slice D 2 d])
 have B0:=zH (show Below w.heap.size w (w.alloc (.cells #[.int .i64 1,.slice D 2 d] 73)) from (zW).alloc zR _)
 obtain ⟨F,hF⟩:∃ F,findT u 0 ts=F:=⟨_,rfl⟩
 have HF:=zH (show findT u 0 (ts.drop 0)=F from hF)
 rw [hF]
 clear h hu hF
 go_enter Tryz.func181,Tryz.ntmps181
 go_wp2_with fail
 go_loopg [5] m (fun g i wr=>∃ (k:Nat),k+g=m/\i=.int .i64 k/\findT u k (ts.drop k)=F/\Bx wr w.heap.size 73 #[.int .i64 1,.slice D 2 d]/\Below w.heap.size w wr)
 case atStart=>exact ⟨0,by omega,rfl,HF.out,X0.out,B0.out⟩
 case round =>
  clear HF X0 B0
  obtain ⟨k,hk,rfl,hf,hx,hb⟩:=hrel
  have HX:=zH hx
  have HB:=zH hb
  by_cases hlt:k < m
  ·obtain ⟨t,ht⟩:=get_lt (l:=ts) (k:=k) (by rw [H.out.1];exact hlt)
   have HT:=zH (show (if t=u then (k:Int) else findT u (k+1) (ts.drop (k+1)))=F by rw [<- hf];exact (findT_step ht).symm)
   obtain ⟨b,off,D',d',rfl,hbl,y0,y1,o1⟩:=(H.out.below hb).at_ ht
   have O1:=zH o1
   obtain ⟨x0,x1,_⟩:=hx.drew.two
   have y0':wr.drew.cell? ⟨b,off+k * 2,none⟩=some (.int .i64 1):=y0
   have y1':wr.drew.cell? ⟨b,off+k * 2+1,none⟩=some (.slice D' 2 d'):=y1
   have km:(k:Int) < (m:Int):=by omega
   clear hf ht o1 hx hb
   by_cases htu:t=u
   ·have hdd:decide (t=u)=true:=by simpa using htu
    have HE:=zH (show (k:Int)=F by have:=HT.out;rwa [if_pos htu] at this)
    have HD:=zH hdd
    clear htu hdd HT
    go_upto_region 4 with fail
    go_region_with (first
     |(go_at_call 210;refine (s_EqTab 1 2 d' d D' D t u _ (RdG.own O1.out).drew (HU.out.below HB.out).drew (by omega)).mono ?_;rintro e w5 ⟨rfl,b5⟩;rw [HD.out])
     |fail)
    all_goals go_wp2_with fail
    all_goals go_ret
    all_goals exact ⟨ret_int (by rw [HE.out]),below_trans HB.out (below_drew b5)⟩
   ·have hdd:decide (t=u)=false:=by simpa using htu
    have HE:=zH (show findT u (k+1) (ts.drop (k+1))=F by have:=HT.out;rwa [if_neg htu] at this)
    have HD:=zH hdd
    clear htu hdd HT
    go_upto_region 4 with fail
    go_region_with (first
     |(go_at_call 210;refine (s_EqTab 1 2 d' d D' D t u _ (RdG.own O1.out).drew (HU.out.below HB.out).drew (by omega)).mono ?_;rintro e w5 ⟨rfl,b5⟩;rw [HD.out])
     |fail)
    all_goals go_wp2_with fail
    all_goals go_roundg (gk - 1)
    all_goals first
     |omega
     |exact ⟨k+1,by omega,by go_num,HE.out,HX.out.below (below_drew b5),below_trans HB.out (below_drew b5)⟩
  ·have hf':(-1:Int)=F:=by rw [List.drop_eq_nil_of_le (by rw [H.out.1];omega)] at hf;exact hf
   have HE:=zH hf'
   clear hf hf' hx hb
   go_wp2_with fail
   go_ret
   exact ⟨ret_int (by rw [HE.out]),HB.out⟩
end Go.Proofs.YtmenmibfkojnoaaGreat
