/- Rows of gates of the call's own that lie apart; append, and where the new row lies; plain facts on runs. Nothing is asked. -/
import Derived.Test.YtmenmibfkojnoaaGreatV46
set_option maxHeartbeats 16000000
namespace Go.Proofs.YtmenmibfkojnoaaGreat
open Go.RowKit
set_option linter.unusedVariables false
section
variable {P:Program} {w:World}
theorem run_appW (base:Nat) (t ty e:TypeId) {z:Value} {size bytes:Nat} (ht:P.underlying t=some (.slice e)) (hinfo:(P.info? e).map (fun i=>(i.zero,i.size,i.bytes))=some (some z,size,bytes))
  (hzs:z.cells.size=size) (hsz:0 < size) (A:Option Addr) (n c:Nat) (xs:List Value) (hown:w.ownsRow base e size (.slice A n c) n xs)
  (A':Option Addr) (m c':Nat) (news:List Value) (hr:Rd w size A' m news) (h1:∀ u ∈ news,u.oneCell'=true)
  (hbytes:(n+m) * bytes<=140737488355328) (hby:0 < bytes) (hbase:base<=w.heap.size) :
  ∃ A'' c'' w',(Builtin.append_ #[t,t] ty #[.slice A n c,.slice A' m c']).run P w=.ok (.slice A'' (n+m) c'') w'/\w'.ownsRow base e size (.slice A'' (n+m) c'') (n+m) (xs++news)/\w.grownBy w' (Value.slice A n c).ownBlock/\((Value.slice A'' (n+m) c'').ownBlock=(Value.slice A n c).ownBlock ∨ (Value.slice A'' (n+m) c'').ownBlock=some w.heap.size):=by
 obtain ⟨i,hi,hz,hs,hb⟩:=info_parts hinfo
 have h63:n+m<=maxLen:=by
  have h:=Nat.le_trans (Nat.le_mul_of_pos_right (n+m) hby) hbytes
  simp only [maxLen]
  omega
 have key:∃ v' w',(Builtin.append_ #[t,t] ty #[.slice A n c,.slice A' m c']).run P w=.ok v' w'/\w'.ownsRow base e size v' (n+m) (xs++news)/\w.grownBy w' (Value.slice A n c).ownBlock/\(v'.ownBlock=(Value.slice A n c).ownBlock ∨ v'.ownBlock=some w.heap.size):=by
  rcases A' with _ | ad
  ·have hm:m=0:=by
    rcases Nat.eq_zero_or_pos m with h0 | h0
    ·exact h0
    ·obtain ⟨b,off,h,_⟩:=hr.2 h0
     cases h
   subst hm
   have hn:news=[]:=List.eq_nil_of_length_eq_zero (by simpa using hr.1)
   subst hn
   exact ⟨_,w,run_app_nil base t ty e i size ht hi _ n xs hown c',by simpa using hown,World.grownBy.refl w _,.inl rfl⟩
  ·have hcells:∀ j u,news[j]? = some u->w.cell? (ad.add j)=some u:=by
    intro j u hu
    rcases Nat.eq_zero_or_pos m with h0 | h0
    ·subst h0
     have hn:news=[]:=List.eq_nil_of_length_eq_zero (by simpa using hr.1)
     subst hn
     simp at hu
    ·obtain ⟨b,off,h,_,hc⟩:=hr.2 h0
     injection h with h
     subst h
     have:=hc j u hu
     unfold Addr.add
     split
     ·subst j;simpa using this
     ·exact this
   obtain ⟨v',w',hrun,h2,h3,_,h5⟩:=run_append_own_at (P:=P) w base t ty e i z size bytes ht hi hz hs hb hzs hsz _ n xs hown ad m c' news hr.1 hcells h1 h63 hbytes hbase
   exact ⟨v',w',hrun,h2,h3,h5⟩
 obtain ⟨v',w',hrun,h2,h3,h5⟩:=key
 obtain ⟨A'',c'',rfl⟩:=ownsRow_shape h2
 exact ⟨A'',c'',w',hrun,h2,h3,h5⟩
theorem wp_appW {o:Oper} {a:Act} {K:Act->World->Prop} {Q:Exit->Act->World->Prop} (s x:Operand) (t:TypeId)
  (ho:o.op=.call { callee:=.builtin .append,args:=#[s,x],argTypes:=#[t,t] })
  {base e:Nat} {z:Value} {size bytes:Nat} (ht:P.underlying t=some (.slice e)) (hinfo:(P.info? e).map (fun i=>(i.zero,i.size,i.bytes))=some (some z,size,bytes))
  (hzs:z.cells.size=size) (hsz:0 < size) {A:Option Addr} {n c:Nat} {xs:List Value} (hs:a.eval s=.slice A n c) (hown:w.ownsRow base e size (.slice A n c) n xs)
  {A':Option Addr} {m c':Nat} {news:List Value} (hx:a.eval x=.slice A' m c') (hr:Rd w size A' m news) (h1:∀ u ∈ news,u.oneCell'=true)
  (hbytes:(n+m) * bytes<=140737488355328) (hby:0 < bytes) (hbase:base<=w.heap.size)
  (h:∀ A'' c'' w',w'.ownsRow base e size (.slice A'' (n+m) c'') (n+m) (xs++news)->w.grownBy w' (Value.slice A n c).ownBlock->((Value.slice A'' (n+m) c'').ownBlock=(Value.slice A n c).ownBlock ∨ (Value.slice A'' (n+m) c'').ownBlock=some w.heap.size)->K (a.put o.dst (.slice A'' (n+m) c'')) w'):o.wp P a w K Q:=by
 obtain ⟨A'',c'',w',hrun,h2,h3,h4⟩:=run_appW (P:=P) base t o.type e ht hinfo hzs hsz A n c xs hown A' m c' news hr h1 hbytes hby hbase
 unfold Oper.wp execOp
 simp only [ho,resolve,invoke,builtin,Sem.run_bind,Sem.run_pure,Result.andThen_ok,List.map_toArray,List.map_cons,List.map_nil,hs,hx,hrun]
 exact h A'' c'' w' h2 h3 h4
theorem wpList_appW {ops:Array Oper} {rest:List Oper} {o:Oper} {a:Act} {Q:Exit->Act->World->Prop} (hgd:o.guard=none) (s x:Operand) (t:TypeId)
  (ho:o.op=.call { callee:=.builtin .append,args:=#[s,x],argTypes:=#[t,t] })
  {base e:Nat} {z:Value} {size bytes:Nat} (ht:P.underlying t=some (.slice e)) (hinfo:(P.info? e).map (fun i=>(i.zero,i.size,i.bytes))=some (some z,size,bytes))
  (hzs:z.cells.size=size) (hsz:0 < size) {A:Option Addr} {n c:Nat} {xs:List Value} (hs:a.eval s=.slice A n c) (hown:w.ownsRow base e size (.slice A n c) n xs)
  {A':Option Addr} {m c':Nat} {news:List Value} (hx:a.eval x=.slice A' m c') (hr:Rd w size A' m news) (h1:∀ u ∈ news,u.oneCell'=true)
  (hbytes:(n+m) * bytes<=140737488355328) (hby:0 < bytes) (hbase:base<=w.heap.size)
  (h:∀ A'' c'' w',w'.ownsRow base e size (.slice A'' (n+m) c'') (n+m) (xs++news)->w.grownBy w' (Value.slice A n c).ownBlock->((Value.slice A'' (n+m) c'').ownBlock=(Value.slice A n c).ownBlock ∨ (Value.slice A'' (n+m) c'').ownBlock=some w.heap.size)->wpList P ops Q rest (a.put o.dst (.slice A'' (n+m) c'')) w'):wpList P ops Q (o :: rest) a w :=
 wpList_plain hgd fun _ hK=>wp_appW s x t ho ht hinfo hzs hsz hs hown hx hr h1 hbytes hby hbase fun A'' c'' w' h2 h3 h4=>hK _ _ (h A'' c'' w' h2 h3 h4)
theorem step_appW {ops:Array Oper} {o:Oper} {a:Act} {K:Act->World->Prop} {Q:Exit->Act->World->Prop} {E:Prop} (hgd:o.guard=none) (s x:Operand) (t:TypeId)
  (ho:o.op=.call { callee:=.builtin .append,args:=#[s,x],argTypes:=#[t,t] })
  {base e:Nat} {z:Value} {size bytes:Nat} (ht:P.underlying t=some (.slice e)) (hinfo:(P.info? e).map (fun i=>(i.zero,i.size,i.bytes))=some (some z,size,bytes))
  (hzs:z.cells.size=size) (hsz:0 < size) {A:Option Addr} {n c:Nat} {xs:List Value} (hs:a.eval s=.slice A n c) (hown:w.ownsRow base e size (.slice A n c) n xs)
  {A':Option Addr} {m c':Nat} {news:List Value} (hx:a.eval x=.slice A' m c') (hr:Rd w size A' m news) (h1:∀ u ∈ news,u.oneCell'=true)
  (hbytes:(n+m) * bytes<=140737488355328) (hby:0 < bytes) (hbase:base<=w.heap.size)
  (h:∀ A'' c'' w',w'.ownsRow base e size (.slice A'' (n+m) c'') (n+m) (xs++news)->w.grownBy w' (Value.slice A n c).ownBlock->((Value.slice A'' (n+m) c'').ownBlock=(Value.slice A n c).ownBlock ∨ (Value.slice A'' (n+m) c'').ownBlock=some w.heap.size)->K (a.put o.dst (.slice A'' (n+m) c'')) w') :
  if Region.wanted o (yielded ops a.tmps)=true then Oper.wp P o a w K Q else E:=by
 have hw:Region.wanted o (yielded ops a.tmps)=true:=by simp [Region.wanted,hgd]
 rw [if_pos hw]
 exact wp_appW s x t ho ht hinfo hzs hsz hs hown hx hr h1 hbytes hby hbase h
end
def Rows (R:Nat) (vs:List Value) (ls:List (List Gt)) (wx:World):Prop :=
 vs.length=ls.length/\(∀ (i:Nat) (v:Value) (l:List Gt),vs[i]? = some v->ls[i]? = some l->∃ A c,v=.slice A l.length c/\wx.ownsRow R 39 4 (.slice A l.length c) l.length (cellsG l))/\∀ (i j:Nat) (u v:Value),vs[i]? = some u->vs[j]? = some v->i ≠ j->u.ownBlock=none ∨ u.ownBlock ≠ v.ownBlock
section
variable {R:Nat} {vs:List Value} {ls:List (List Gt)} {wx w':World}
theorem Rows.map_ (h:Rows R vs ls wx) (f:∀ (A:Option Addr) (c:Nat) (l:List Gt),wx.ownsRow R 39 4 (.slice A l.length c) l.length (cellsG l)->w'.ownsRow R 39 4 (.slice A l.length c) l.length (cellsG l)):Rows R vs ls w' :=
 ⟨h.1,fun i v l hv hl=>by obtain ⟨A,c,e,o⟩:=h.2.1 i v l hv hl;exact ⟨A,c,e,f A c l o⟩,h.2.2⟩
theorem Rows.below (h:Rows R vs ls wx) (hb:Below wx.heap.size wx w'):Rows R vs ls w':=h.map_ fun _ _ _ o=>ownsRow_below o hb
theorem Rows.alloc (h:Rows R vs ls wx) (o:Obj):Rows R vs ls (wx.alloc o):=h.below ((zW).alloc zR _)
theorem Rows.drew (h:Rows R vs ls wx):Rows R vs ls wx.drew:=h.below (zW).drew
theorem Rows.store (h:Rows R vs ls wx) {g t:Nat} {cs:Array Value} (hg:Bx wx g t cs) (hne:39 ≠ t) (i:Nat) (u:Value):Rows R vs ls (wx.setCell ⟨g,i,none⟩ u):=h.map_ fun _ _ _ o=>own_farT o hg hne i u
theorem Rows.at_ (h:Rows R vs ls wx) {i:Nat} {l:List Gt} (hl:ls[i]? = some l):∃ A c,vs[i]? = some (.slice A l.length c)/\wx.ownsRow R 39 4 (.slice A l.length c) l.length (cellsG l):=by
 have hi:=(List.getElem?_eq_some_iff.1 hl).1
 rw [<- h.1] at hi
 obtain ⟨A,c,e,o⟩:=h.2.1 i _ l (List.getElem?_eq_getElem hi) hl
 exact ⟨A,c,by rw [List.getElem?_eq_getElem hi,e],o⟩
theorem Rows.set_ (h:Rows R vs ls wx) {i:Nat} {A':Option Addr} {c':Nat} {l l':List Gt} {v:Value} (hv:vs[i]? = some v) (hl:ls[i]? = some l) (hg:wx.grownBy w' v.ownBlock) (ho:w'.ownsRow R 39 4 (.slice A' l'.length c') l'.length (cellsG l'))
  (hat:(Value.slice A' l'.length c').ownBlock=v.ownBlock ∨ (Value.slice A' l'.length c').ownBlock=some wx.heap.size):Rows R (vs.set i (.slice A' l'.length c')) (ls.set i l') w':=by
 obtain ⟨h1,h2,h3⟩:=h
 have hi:=(List.getElem?_eq_some_iff.1 hv).1
 have other:∀ (j:Nat) (u:Value),vs[j]? = some u->j ≠ i->(u.ownBlock=none ∨ u.ownBlock ≠ v.ownBlock)/\∀ (k:Nat),u.ownBlock=some k->k < wx.heap.size:=fun j u hu hj=>by
  refine ⟨h3 j i u v hu hv hj,fun k hk=>?_⟩
  have hjl:=(List.getElem?_eq_some_iff.1 hu).1
  obtain ⟨A,c,e,o⟩:=h2 j u _ hu (List.getElem?_eq_getElem (by omega))
  subst e
  exact (o.lt k hk).2
 have apart:∀ (j:Nat) (u:Value),vs[j]? = some u->j ≠ i->u.ownBlock=none ∨ u.ownBlock ≠ (Value.slice A' l'.length c').ownBlock:=fun j u hu hj=>by
  obtain ⟨q1,q2⟩:=other j u hu hj
  rcases hat with e | e
  ·rw [e];exact q1
  ·rw [e]
   cases hk:u.ownBlock with
   |none=>exact .inl rfl
   |some k =>
    refine .inr fun e2=>?_
    injection e2 with e2
    have:=q2 k hk
    omega
 refine ⟨by rw [List.length_set,List.length_set];exact h1,fun j u x hu hx=>?_,fun j k u x hu hx hjk=>?_⟩
 ·by_cases hj:i=j
  ·subst hj
   rw [List.getElem?_set_self hi] at hu
   rw [List.getElem?_set_self (by omega)] at hx
   injection hu with hu
   injection hx with hx
   subst hu hx
   exact ⟨A',c',rfl,ho⟩
  ·rw [List.getElem?_set_ne hj] at hu hx
   obtain ⟨A,c,e,o⟩:=h2 j u x hu hx
   refine ⟨A,c,e,o.kept hg ?_⟩
   have:=(other j u hu (fun e=>hj e.symm)).1
   rw [e] at this
   exact this
 ·by_cases hj:i=j
  ·subst hj
   rw [List.getElem?_set_self hi] at hu
   rw [List.getElem?_set_ne hjk] at hx
   injection hu with hu
   subst hu
   rcases apart k x hx (fun e=>hjk e.symm) with e | e
   ·cases hb:(Value.slice A' l'.length c').ownBlock with
    |none=>exact .inl rfl
    |some b=>rw [e];exact .inr (by simp)
   ·cases hb:(Value.slice A' l'.length c').ownBlock with
    |none=>exact .inl rfl
    |some b=>rw [hb] at e;exact .inr fun e2=>e e2.symm
  ·rw [List.getElem?_set_ne hj] at hu
   by_cases hk:i=k
   ·subst hk
    rw [List.getElem?_set_self hi] at hx
    injection hx with hx
    subst hx
    exact apart j u hu (fun e=>hj e.symm)
   ·rw [List.getElem?_set_ne hk] at hx
    exact h3 j k u x hu hx hjk
theorem Rows.clear (h:Rows R vs ls wx) {i:Nat} {l:List Gt} {v:Value} (hv:vs[i]? = some v) (hl:ls[i]? = some l):Rows R (vs.set i (.slice none 0 0)) (ls.set i []) wx:=by
 obtain ⟨h1,h2,h3⟩:=h
 have hi:=(List.getElem?_eq_some_iff.1 hv).1
 refine ⟨by rw [List.length_set,List.length_set];exact h1,fun j u x hu hx=>?_,fun j k u x hu hx hjk=>?_⟩
 ·by_cases hj:i=j
  ·subst hj
   rw [List.getElem?_set_self hi] at hu
   rw [List.getElem?_set_self (by omega)] at hx
   injection hu with hu
   injection hx with hx
   subst hu hx
   exact ⟨none,0,rfl,World.ownsRow_nil _ _ _ _⟩
  ·rw [List.getElem?_set_ne hj] at hu hx
   exact h2 j u x hu hx
 ·by_cases hj:i=j
  ·subst hj
   rw [List.getElem?_set_self hi] at hu
   injection hu with hu
   subst hu
   exact .inl rfl
  ·rw [List.getElem?_set_ne hj] at hu
   by_cases hk:i=k
   ·subst hk
    rw [List.getElem?_set_self hi] at hx
    injection hx with hx
    subst hx
    cases hb:u.ownBlock with
    |none=>exact .inl rfl
    |some b=>exact .inr (by simp [Value.ownBlock])
   ·rw [List.getElem?_set_ne hk] at hx
    exact h3 j k u x hu hx hjk
end
def SR (R P T:Nat) (s:RSt) (vo:Value) (wx:World):Prop :=
 s.2.length=4/\∃ vs:List Value,vs.length=4/\Bx wx P T vs.toArray/\Rows R (vs++[vo]) (s.2++[s.1]) wx
section
variable {R P T:Nat} {s:RSt} {vo:Value} {wx w':World}
theorem SR.below (h:SR R P T s vo wx) (hb:Below wx.heap.size wx w'):SR R P T s vo w':=by
 obtain ⟨h1,vs,h2,h3,h4⟩:=h
 exact ⟨h1,vs,h2,h3.below hb,h4.below hb⟩
theorem SR.alloc (h:SR R P T s vo wx) (o:Obj):SR R P T s vo (wx.alloc o):=h.below ((zW).alloc zR _)
theorem SR.drew (h:SR R P T s vo wx):SR R P T s vo wx.drew:=h.below (zW).drew
theorem SR.lt (h:SR R P T s vo wx):P < wx.heap.size:=by
 obtain ⟨h1,vs,h2,h3,h4⟩:=h
 exact h3.lt
theorem SR.out (h:SR R P T s vo wx):∃ A c,vo=.slice A s.1.length c/\wx.ownsRow R 39 4 (.slice A s.1.length c) s.1.length (cellsG s.1):=by
 obtain ⟨h1,vs,h2,h3,h4⟩:=h
 obtain ⟨A,c,e,o⟩:=h4.at_ (i:=4) (l:=s.1) (by rw [List.getElem?_append_right (by omega),h1];rfl)
 rw [List.getElem?_append_right (by omega),h2] at e
 injection e with e
 exact ⟨A,c,e,o⟩
theorem SR.run (h:SR R P T s vo wx) {q:Nat} (hq:q < 4):∃ A c,wx.cell? ⟨P,q,none⟩=some (.slice A (s.2.getD q []).length c)/\wx.frozen? ⟨P,q,none⟩=false/\wx.ownsRow R 39 4 (.slice A (s.2.getD q []).length c) (s.2.getD q []).length (cellsG (s.2.getD q [])):=by
 obtain ⟨h1,vs,h2,h3,h4⟩:=h
 obtain ⟨A,c,e,o⟩:=h4.at_ (i:=q) (l:=s.2.getD q []) (by rw [List.getElem?_append_left (by omega),List.getD_eq_getElem?_getD,List.getElem?_eq_getElem (by omega)];rfl)
 rw [List.getElem?_append_left (by omega)] at e
 refine ⟨A,c,?_,h3.free q,o⟩
 rw [h3.cell q]
 simpa using e
theorem SR.pushOut (h:SR R P T s vo wx) (hT:39 ≠ T) {A':Option Addr} {m c':Nat} {news:List Gt} (hm:news.length=m) (hg:wx.grownBy w' vo.ownBlock) (ho:w'.ownsRow R 39 4 (.slice A' (s.1.length+m) c') (s.1.length+m) (cellsG s.1++cellsG news))
  (hat:(Value.slice A' (s.1.length+m) c').ownBlock=vo.ownBlock ∨ (Value.slice A' (s.1.length+m) c').ownBlock=some wx.heap.size):SR R P T (s.1++news,s.2) (.slice A' (s.1.length+m) c') w':=by
 subst hm
 obtain ⟨A,c,e,o⟩:=h.out
 obtain ⟨h1,vs,h2,h3,h4⟩:=h
 have hl:(s.1++news).length=s.1.length+news.length:=List.length_append
 rw [<- hl] at ho hat ⊢
 rw [<- cellsG_append] at ho
 have hv4:(vs++[vo])[4]? = some vo:=by rw [List.getElem?_append_right (by omega),h2];rfl
 have hl4:(s.2++[s.1])[4]? = some s.1:=by rw [List.getElem?_append_right (by omega),h1];rfl
 have:=h4.set_ hv4 hl4 hg ho hat
 have e1:∀ {α:Type} (l:List α) (x y:α),l.length=4->(l++[x]).set 4 y=l++[y]:=fun l x y hl=>by
  rw [List.set_append_right _ _ (by omega),hl];rfl
 rw [e1 _ _ _ h2,e1 _ _ _ h1] at this
 subst e
 exact ⟨h1,vs,h2,kept_app o hg h3 hT,this⟩
theorem SR.pushRun (h:SR R P T s vo wx) (hT:39 ≠ T) {q m c c':Nat} {A A':Option Addr} {news:List Gt} (hq:q < 4) (hm:news.length=m) (hv:wx.cell? ⟨P,q,none⟩=some (.slice A (s.2.getD q []).length c)) (hg:wx.grownBy w' (Value.slice A (s.2.getD q []).length c).ownBlock)
  (ho:w'.ownsRow R 39 4 (.slice A' ((s.2.getD q []).length+m) c') ((s.2.getD q []).length+m) (cellsG (s.2.getD q [])++cellsG news))
  (hat:(Value.slice A' ((s.2.getD q []).length+m) c').ownBlock=(Value.slice A (s.2.getD q []).length c).ownBlock ∨ (Value.slice A' ((s.2.getD q []).length+m) c').ownBlock=some wx.heap.size) :
  SR R P T (s.1,s.2.set q (s.2.getD q []++news)) vo (w'.setCell ⟨P,q,none⟩ (.slice A' ((s.2.getD q []).length+m) c')):=by
 subst hm
 obtain ⟨h1,vs,h2,h3,h4⟩:=h
 obtain ⟨l,hl⟩:∃ l,s.2.getD q []=l:=⟨_,rfl⟩
 rw [hl] at hv hg ho hat ⊢
 have hlen:(l++news).length=l.length+news.length:=List.length_append
 rw [<- hlen] at ho hat ⊢
 rw [<- cellsG_append] at ho
 have hvq:(vs++[vo])[q]? = some (.slice A l.length c):=by
  rw [List.getElem?_append_left (by omega)]
  rw [h3.cell q] at hv
  simpa using hv
 have hlq:(s.2++[s.1])[q]? = some l:=by
  rw [List.getElem?_append_left (by omega),List.getElem?_eq_getElem (by omega),<- hl,List.getD_eq_getElem?_getD,List.getElem?_eq_getElem (by omega)]
  rfl
 obtain ⟨A0,c0,e0,o0⟩:=h4.at_ hlq
 rw [hvq] at e0
 injection e0 with e0
 injection e0 with e1 _ e2
 subst e1 e2
 have:=h4.set_ hvq hlq hg ho hat
 rw [List.set_append_left _ _ (by omega),List.set_append_left _ _ (by omega)] at this
 have hb:=kept_app o0 hg h3 hT
 refine ⟨by simp [h1],vs.set q (.slice A' (l++news).length c'),by simp [h2],?_,this.store hb hT q _⟩
 have hs:=hb.set_ q (.slice A' (l++news).length c')
 simpa using hs
theorem SR.clear (h:SR R P T s vo wx) (hT:39 ≠ T) {q:Nat} (hq:q < 4):SR R P T (s.1,s.2.set q []) vo (wx.setCell ⟨P,q,none⟩ (.slice none 0 0)):=by
 obtain ⟨h1,vs,h2,h3,h4⟩:=h
 have hvq:(vs++[vo])[q]? = some (vs[q]'(by omega)):=by rw [List.getElem?_append_left (by omega),List.getElem?_eq_getElem]
 have hlq:(s.2++[s.1])[q]? = some (s.2[q]'(by omega)):=by rw [List.getElem?_append_left (by omega),List.getElem?_eq_getElem]
 have:=h4.clear hvq hlq
 rw [List.set_append_left _ _ (by omega),List.set_append_left _ _ (by omega)] at this
 refine ⟨by simp [h1],vs.set q (.slice none 0 0),by simp [h2],?_,this.store h3 hT q _⟩
 have hs:=h3.set_ q (.slice none 0 0)
 simpa using hs
end
/-! Plain facts on runs. -/
def sumL (ls:List (List Gt)):Nat:=(ls.map List.length).sum
def wtR (s:RSt):Nat:=s.1.length+100 * sumL s.2
theorem sumL_set:∀ (ls:List (List Gt)) (q:Nat) (x:List Gt),q < ls.length->sumL (ls.set q x)+(ls.getD q []).length=sumL ls+x.length
 |[],q,x,h=>by simp at h
 |l :: r,0,x,h=>by simp [sumL];omega
 |l :: r,q+1,x,h=>by
  have ih:=sumL_set r q x (by simpa using h)
  simp only [sumL,List.set_cons_succ,List.map_cons,List.sum_cons,List.getD_cons_succ] at ih ⊢
  omega
theorem shortR_len (l:List Gt):(shortR l).length<=100 * l.length:=by
 have h1:=costR_bd l
 unfold shortR
 split
 ·omega
 ·rename_i h
  have h2:=costR_bd (short0 l)
  rw [List.length_map]
  omega
def RunsOk (s:RSt):Prop:=s.2.length=4/\∀ q,q < 4->RunOn q (s.2.getD q [])
theorem getD_setR {ls:List (List Gt)} {q p:Nat} {x:List Gt} (hq:q < ls.length):(ls.set q x).getD p []=if p=q then x else ls.getD p []:=getD_set hq
theorem emitR_ok {s:RSt} {q:Nat} (h:RunsOk s) (hq:q < 4):RunsOk (emitR s q)/\wtR (emitR s q)<=wtR s:=by
 have hs:=sumL_set s.2 q [] (by rw [h.1];exact hq)
 have hl:=shortR_len (s.2.getD q [])
 refine ⟨⟨by simp [emitR,h.1],fun p hp=>?_⟩,?_⟩
 ·show RunOn p ((s.2.set q []).getD p [])
  rw [getD_setR (by rw [h.1];exact hq)]
  split
  ·intro g hg;cases hg
  ·exact h.2 p hp
 ·unfold wtR emitR
  simp only [List.length_append,List.length_nil] at hs ⊢
  omega
theorem addRun_ok {s:RSt} {g:Gt} {q:Nat} (h:RunsOk s) (hq:q < 4) (hg:g=⟨g.k,(q:Nat),0,0⟩/\1<=g.k/\g.k<=8):RunsOk (s.1,s.2.set q (s.2.getD q []++[g]))/\wtR (s.1,s.2.set q (s.2.getD q []++[g]))<=wtR s+100:=by
 have hs:=sumL_set s.2 q (s.2.getD q []++[g]) (by rw [h.1];exact hq)
 refine ⟨⟨by simp [h.1],fun p hp=>?_⟩,?_⟩
 ·show RunOn p ((s.2.set q _).getD p [])
  rw [getD_setR (by rw [h.1];exact hq)]
  split
  ·rename_i e
   subst e
   intro x hx
   rcases List.mem_append.1 hx with hx | hx
   ·exact h.2 p hq x hx
   ·rw [List.mem_singleton.1 hx];exact hg
  ·exact h.2 p hp
 ·unfold wtR
  simp only [List.length_append,List.length_cons,List.length_nil] at hs ⊢
  omega
theorem run_le {s:RSt} {q:Nat} (h:s.2.length=4) (hq:q < 4):100 * (s.2.getD q []).length<=wtR s:=by
 have hs:=sumL_set s.2 q [] (by rw [h];exact hq)
 unfold wtR
 simp only [List.length_nil] at hs
 omega
theorem outGate_ok {s:RSt} {g:Gt} (h:RunsOk s):RunsOk (s.1++[g],s.2)/\wtR (s.1++[g],s.2)<=wtR s+100:=by
 refine ⟨h,?_⟩
 unfold wtR
 simp only [List.length_append,List.length_cons,List.length_nil]
 omega
def s0R:RSt:=([],[[],[],[],[]])
theorem s0R_ok:RunsOk s0R/\wtR s0R=0:=by
 refine ⟨⟨rfl,fun q hq=>?_⟩,rfl⟩
 obtain rfl | rfl | rfl | rfl:q=0 ∨ q=1 ∨ q=2 ∨ q=3:=by omega
 all_goals exact fun g hg=>by cases hg
end Go.Proofs.YtmenmibfkojnoaaGreat
