/- Contracts of the drawing helpers l1Once, l1PickInt, IdentityPermutation (spec), l8Perm, l8Bent. Plain: the gates that reduce a tableau; the ways that are tried to better a list. No program in sight; nothing is asked. append onto a row of the call's own: the cells that were read there before stay. Nothing is asked. Plain facts on gates that fit a polynomial; what PhasePolynomialApplyGate comes to. ... -/
import Derived.Test.YtmenmibfkojnoaaGreatV04
import Derived.Test.YtmenmibfkojnoaaGreatV16
import Derived.Test.YtmenmibfkojnoaaGreatV19
import Derived.Test.YtmenmibfkojnoaaGreatV18
import Derived.Test.YtmenmibfkojnoaaGreatV21
import Derived.Test.YtmenmibfkojnoaaGreatV01
import Derived.Laws.BitsLemmas
set_option maxHeartbeats 16000000
namespace Go.Proofs.YtmenmibfkojnoaaGreat
open Go.RowKit
theorem dr_trans {a b c:World} {g:Nat} (h:a.grownBy b (some g)) (k:b.grownBy c (some g)):a.grownBy c (some g):=h.trans k
theorem dr_below {a b c:World} {g:Nat} (h:a.grownBy b (some g)) (k:Below b.heap.size b c):a.grownBy c (some g) :=
 ⟨k.os.trans h.os,k.tape.trans h.tape,k.output.trans h.output,Nat.le_trans h.size k.size,fun i hi hne=>(k.block i (Nat.lt_of_lt_of_le hi h.size)).trans (h.block i hi hne)⟩
theorem dr_row {a b c:World} {g:Nat} {row:Option Nat} (h:a.grownBy b (some g)) (k:b.grownBy c row) (hr:∀ i,row=some i->a.heap.size<=i):a.grownBy c (some g) :=
 ⟨k.os.trans h.os,k.tape.trans h.tape,k.output.trans h.output,Nat.le_trans h.size k.size,fun i hi hne=>(k.block i (Nat.lt_of_lt_of_le hi h.size) (fun e=>by have:=hr i e.symm;omega)).trans (h.block i hi hne)⟩
theorem dr_set {a b:World} {g:Nat} (h:a.grownBy b (some g)) {p:Addr} (hp:a.heap.size<=p.block) (u:Value):a.grownBy (b.setCell p u) (some g) :=
 dr_row h (row:=some p.block) ⟨rfl,rfl,rfl,by simp [World.setCell],fun k _ hk=>Below.heap_setCell b _ u k (fun e=>hk (by rw [e]))⟩ (fun i e=>by injection e with e;omega)
theorem dr_own {a b:World} {g:Nat} (h:a.grownBy b (some g)) (hc:Cur a g) {base e sz n:Nat} {v:Value} {xs:List Value} (ho:a.ownsRow base e sz v n xs) (hne:e ≠ 122):b.ownsRow base e sz v n xs:=by
 obtain ⟨cs,hb⟩:=hc.bx
 exact ho.kept h (.inr fun he=>own_bx_ne ho hb hne he.symm)
theorem dr_bx {a b:World} {g:Nat} (h:a.grownBy b (some g)) {k t:Nat} {cs:Array Value} (hb:Bx a k t cs) (hne:k ≠ g):Bx b k t cs:=hb.grown h (fun e=>hne (by injection e))
def DrawnB (g:Nat) (w:World) (e:Ending) (w':World):Prop:=∃ b:Bool,e=.returned (.bool b)/\Cur w' g/\w.grownBy w' (some g)
theorem s_l1Once (g:Nat) (n:Int) (w:World) (h:Cur w g) (hn:n<=1000000):Calls Tryz.prog 72 #[.pointer (some ⟨g,0,none⟩),.int .i64 n] w (DrawnB g w):=by
 have H:=zH h
 clear h
 go_enter Tryz.func72,Tryz.ntmps72
 go_wp2_with fail
 refine (s_l1Below _ _ _ H.out hn).mono ?_
 rintro e w1 ⟨x,rfl,_,hc,g1⟩
 go_wp2_with fail
 go_ret
 exact ⟨_,rfl,hc,g1⟩
theorem s_l1PickInt (g:Nat) (A:Option Addr) (n cap:Nat) (zs:List Int) (w:World) (h:Cur w g) (hr:w.ownsRow (g+1) 3 1 (.slice A n cap) n (cellsI zs)) (hn:1<=n) (hn2:n<=1000000) :
  Calls Tryz.prog 121 #[.pointer (some ⟨g,0,none⟩),.slice A n cap] w (Drawn (fun x=>x ∈ zs) g w):=by
 have H:=zH h
 have HR:=zH hr
 clear h hr
 go_enter Tryz.func121,Tryz.ntmps121
 go_wp2_with fail
 refine (s_l1Below _ _ _ H.out (by omega)).mono ?_
 rintro e w1 ⟨x,rfl,⟨hx,_⟩,hc,g1⟩
 obtain ⟨hx0,hx1⟩:=hx (by omega)
 obtain ⟨k,rfl⟩:∃ k:Nat,x=k:=⟨x.toNat,by omega⟩
 have o1:=dr_own g1 H.out HR.out (by decide)
 obtain ⟨b,off,y,rfl,hB,hd,c0⟩:=(RdI.own o1).at_ (show k < n by omega)
 have hm:y ∈ zs:=List.mem_of_mem_drop (i:=k) (by rw [hd];simp)
 have HM:=zH hm
 have HC:=zH hc
 clear hx hd hm o1
 go_wp2_with fail
 go_ret
 exact ⟨y,rfl,HM.out,HC.out,g1⟩
def iotaL (n:Nat):List Int:=(List.range n).map fun (i:Nat)=>(i:Int)
theorem iotaL_snoc (n:Nat):iotaL (n+1)=iotaL n++[(n:Int)]:=by simp [iotaL,List.range_succ]
theorem iotaL_len (n:Nat):(iotaL n).length=n:=by simp [iotaL]
theorem iotaL_perm (n:Nat) (h1:1<=n) (h4:n<=4):isPerm (iotaL n)=true:=by
 obtain h | h | h | h:n=1 ∨ n=2 ∨ n=3 ∨ n=4:=by omega
 all_goals subst h;decide
theorem s_IdentityPermutation (n:Nat) (w:World) (h1:1<=n) (h4:n<=4):Calls Tryz.prog 213 #[.int .i64 n] w (Ret 3 1 (cellsI (iotaL n)) n w):=by
 have hin:Hid (inB (n:Int) 1 4=true):=zH (inB_iff.2 ⟨by omega,by omega⟩)
 go_enter Tryz.func213,Tryz.ntmps213
 go_wp2_with fail
 go_loopg [3,4] n (fun r v i wr=>∃ (k:Nat) (A0:Option Addr) (c0:Nat),k+r=n/\i=.int .i64 k/\v=.slice A0 k c0/\wr.ownsRow w.heap.size 3 1 (.slice A0 k c0) k (cellsI (iotaL k))/\Below w.heap.size w wr)
 case atStart=>exact ⟨0,_,_,by omega,rfl,rfl,World.ownsRow_lit w #[] 0 zR (by simp [maxLen]) rfl,(zW).alloc zR _⟩
 case round =>
  obtain ⟨k,A0,c0,hk,rfl,rfl,ho,hb⟩:=hrel
  have HO:=zH ho
  have hs:=hb.size
  clear ho
  by_cases hlt:k < n
  ·go_wp2_with fail
   refine (s_in _ _ _ _).mono ?_
   rintro e w1 ⟨rfl,rfl⟩
   rw [hin.out]
   go_wp2_with (at_builtin;refine wpList_app rfl (.tmp 15) (.tmp 17) 58 rfl Tryz.underlying58 infoInt1 rfl (by decide) rfl (HO.out.alloc _) rfl (Rd.lit _ 3 #[.int .i64 (k:Int)] 1 1 rfl) (by simp [Value.oneCell']) (by omega) (by decide) (by simp<;>omega) ?_;intro A2 c2 w2 o2 g2)
   go_roundg (gk - 1)
   case measure=>omega
   case rel=>exact ⟨k+1,A2,c2,by omega,by go_num,rfl,by rw [iotaL_snoc,cellsI_append];exact o2,below_grown (hb.alloc hs _) (by simp<;>omega) (HO.out.alloc _) zR g2⟩
  ·go_wp2_with fail
   refine (s_in _ _ _ _).mono ?_
   rintro e w1 ⟨rfl,rfl⟩
   rw [hin.out]
   go_wp2_with fail
   go_ret
   obtain rfl:k=n:=by omega
   exact ⟨A0,c0,rfl,HO.out,hb⟩
def DrawnI (P:List Int->Prop) (g:Nat) (w:World) (e:Ending) (w':World):Prop :=
 ∃ (A:Option Addr) (n c:Nat) (zs:List Int),e=.returned (.slice A n c)/\zs.length=n/\P zs/\w'.ownsRow w.heap.size 3 1 (.slice A n c) n (cellsI zs)/\Cur w' g/\w.grownBy w' (some g)
theorem perm_swap {z:List Int} {i k:Nat} (h:isPerm z=true) (hi:i < z.length) (hk:k < z.length):isPerm ((z.set i z[k]).set k z[i])=true:=by
 have hp:=List.set_set_perm hi hk
 rw [isPerm_iff] at h ⊢
 obtain ⟨h1,h2,h3,h4⟩:=h
 have hl:((z.set i z[k]).set k z[i]).length=z.length:=by simp
 rw [hl]
 exact ⟨fun y hy=>h1 y (hp.mem_iff.1 hy),hp.nodup_iff.2 h2,h3,h4⟩
theorem cellsI_set (z:List Int) (k:Nat) (x:Int):(cellsI z).set k (.int .i64 x)=cellsI (z.set k x):=by simp [cellsI]
theorem s_l8Perm (g n:Nat) (w:World) (h:Cur w g) (h1:1<=n) (h4:n<=4):Calls Tryz.prog 199 #[.pointer (some ⟨g,0,none⟩),.int .i64 n] w (DrawnI (fun zs=>zs.length=n/\isPerm zs=true) g w):=by
 have H:=zH h
 have hgw:=h.lt
 clear h
 go_enter Tryz.func199,Tryz.ntmps199
 go_wp2_with fail
 refine (s_IdentityPermutation n _ h1 h4).mono ?_
 rintro e w1 ⟨A1,c1,rfl,o1,b1⟩
 obtain ⟨b,hA1⟩:∃ b,A1=some ⟨b,0,none⟩:=by
  rcases o1.2 with ⟨_,h0⟩ | ⟨b,cap,cur,hv,_⟩
  ·omega
  ·injection hv with hv _ _;exact ⟨b,hv⟩
 subst hA1
 have hbw:w.heap.size<=b:=(o1.lt b rfl).1
 have O1:=zH o1
 have C1:=zH (H.out.below b1)
 have G1:=zH (dr_below (World.grownBy.refl w (some g)) b1)
 clear o1 b1 H
 go_wp2_with fail
 go_loopg [6] n (fun r i wr=>∃ (k:Nat) (zs:List Int),k+1=r/\k < n/\i=.int .i64 k/\zs.length=n/\isPerm zs=true/\wr.ownsRow w.heap.size 3 1 (.slice (some ⟨b,0,none⟩) n c1) n (cellsI zs)/\Cur wr g/\w.grownBy wr (some g))
 case atStart=>exact ⟨n - 1,iotaL n,by omega,by omega,by go_num,iotaL_len n,iotaL_perm n h1 h4,O1.out,C1.out,G1.out⟩
 case round =>
  clear O1 C1 G1
  obtain ⟨k,zs,hk,hkn,rfl,hzl,hp,ho,hc,hg⟩:=hrel
  have HZL:=zH hzl
  have HP:=zH hp
  have HO:=zH ho
  have HC:=zH hc
  have HG:=zH hg
  clear hzl hp ho hc hg
  by_cases hk0:0 < k
  ·go_wp2_with fail
   refine (s_l1Below _ _ _ HC.out (by omega)).mono ?_
   rintro e w2 ⟨y,rfl,⟨hy,_⟩,hc2,g2⟩
   obtain ⟨hy0,hy1⟩:=hy (by omega)
   obtain ⟨j,rfl⟩:∃ j:Nat,y=j:=⟨y.toNat,by omega⟩
   have hjn:j < n:=by omega
   have o2:=dr_own g2 HC.out HO.out (by decide)
   have ck:=(o2.cellAt k (by omega)).trans (show (cellsI zs)[k]? = some (.int .i64 (zs[k]'(by have:=HZL.out;omega))) from by simp [cellsI,HZL.out,hkn])
   have cj:=(o2.cellAt j (by omega)).trans (show (cellsI zs)[j]? = some (.int .i64 (zs[j]'(by have:=HZL.out;omega))) from by simp [cellsI,HZL.out,hjn])
   have fk:=o2.frozenAt k
   have fj:=o2.frozenAt j
   obtain ⟨xk,hxk⟩:∃ x,zs[k]'(by have:=HZL.out;omega)=x:=⟨_,rfl⟩
   obtain ⟨xj,hxj⟩:∃ x,zs[j]'(by have:=HZL.out;omega)=x:=⟨_,rfl⟩
   rw [hxk] at ck
   rw [hxj] at cj
   have HXK:=zH hxk
   have HXJ:=zH hxj
   have O2:=zH o2
   have C2:=zH hc2
   have G2:=zH (dr_trans HG.out g2)
   have hkI:(k:Int) < (n:Int):=by omega
   have hjI:(j:Int) < (n:Int):=by omega
   obtain ⟨v,hv⟩:=cell?_setCell_some (w:=w2) (p:=⟨b,k,none⟩) (x:=.int .i64 xj) (q:=⟨b,j,none⟩) (v:=.int .i64 xj) cj
   clear hy hxk hxj o2 hc2 g2 HO HC HG
   go_wp2_with fail
   go_roundg (gk - 1)
   case measure=>omega
   case rel =>
    have s1:=O2.out.stored k (.int .i64 xj)
    have s2:=s1.1.stored j (.int .i64 xk)
    rw [cellsI_set,cellsI_set] at s2
    refine ⟨k - 1,(zs.set k xj).set j xk,by omega,by omega,by go_num,by simp [HZL.out],?_,s2.1,(C2.out.setCell (by show g < b;omega) _).setCell (by show g < b;omega) _,dr_set (dr_set G2.out hbw _) hbw _⟩
    have hp:=perm_swap HP.out (i:=k) (k:=j) (by have:=HZL.out;omega) (by have:=HZL.out;omega)
    rw [HXK.out,HXJ.out] at hp
    exact hp
  ·go_wp2_with fail
   go_ret
   exact ⟨_,n,c1,zs,rfl,HZL.out,⟨HZL.out,HP.out⟩,HO.out,HC.out,HG.out⟩
set_option linter.unusedVariables false
abbrev SSt:=List Pq × List Gt
def rowP (r:List Pq) (i:Nat):Pq:=r.getD i ⟨0,0,0⟩
def xB (r:List Pq) (i k:Nat):Bool:=bitB (rowP r i).x k
def zB (r:List Pq) (i k:Nat):Bool:=bitB (rowP r i).z k
def doS (n:Nat) (s:SSt) (k:Int) (a b:Nat):SSt:=(appT n ⟨k,a,b,0⟩ s.1,s.2++[⟨k,a,b,0⟩])
def loopK (f:Nat->SSt->SSt):Nat->Nat->SSt->SSt
 |_,0,s=>s
 |k,m+1,s=>loopK f (k+1) m (f k s)
def f1 (n q:Nat) (k:Nat) (s:SSt):SSt:=if (xB s.1 q k && zB s.1 q k)=true then doS n s 5 k 0 else if zB s.1 q k=true then doS n s 4 k 0 else s
def f2 (n q:Nat) (k:Nat) (s:SSt):SSt:=if xB s.1 q k=true then doS n s 9 q k else s
def f3 (n q:Nat) (k:Nat) (s:SSt):SSt:=if (xB s.1 (q+n) k && zB s.1 (q+n) k)=true then doS n (doS n s 5 k 0) 4 k 0 else if xB s.1 (q+n) k=true then doS n s 4 k 0 else s
def f4 (n q:Nat) (k:Nat) (s:SSt):SSt:=if zB s.1 (q+n) k=true then doS n s 9 k q else s
def fndX (r:List Pq) (q:Nat):Nat->Nat->Nat
 |k,0=>k
 |k,m+1=>if xB r q k=true then k else fndX r q (k+1) m
def sw1 (n q:Nat) (s:SSt):SSt:=if fndX s.1 q q (n - 1 - q)=q then s else doS n s 11 q (fndX s.1 q q (n - 1 - q))
def hH (n q:Nat) (s:SSt):SSt:=if xB s.1 (q+n) q=true then doS n (doS n (doS n s 4 q 0) 5 q 0) 4 q 0 else s
def pZ (n q:Nat) (s:SSt):SSt:=if (rowP s.1 q).p=2 then doS n s 3 q 0 else s
def pX (n q:Nat) (s:SSt):SSt:=if (rowP s.1 (q+n)).p=2 then doS n s 1 q 0 else s
def firstQ (n q:Nat) (s:SSt):SSt:=loopK (f2 n q) (q+1) (n - (q+1)) (sw1 n q (loopK (f1 n q) q (n - q) s))
def secondQ (n q:Nat) (s:SSt):SSt:=pX n q (pZ n q (hH n q (loopK (f4 n q) (q+1) (n - (q+1)) (loopK (f3 n q) (q+1) (n - (q+1)) s))))
def redQ (n:Nat):Nat->Nat->SSt->SSt
 |_,0,s=>s
 |q,m+1,s=>redQ n (q+1) m (secondQ n q (firstQ n q s))
def redT (n:Nat) (r:List Pq):List Gt:=(redQ n 0 n (r,[])).2
def SOk (n:Nat) (s:SSt):Prop:=okT n s.1/\∀ g ∈ s.2,okN n g=true/\cliff g.k=true
def oneKs:List Int:=[1,3,4,5]
def chkOne (n:Nat):Bool:=(List.range n).all fun q=>oneKs.all fun k=>okN n ⟨k,q,0,0⟩ && cliff k
def chkTwo (n:Nat):Bool:=(List.range n).all fun a=>(List.range n).all fun b=>a == b || (okN n ⟨9,a,b,0⟩ && okN n ⟨11,a,b,0⟩)
theorem chk12 {n:Nat} (h:1<=n/\n<=4):chkOne n=true/\chkTwo n=true:=by
 obtain rfl | rfl | rfl | rfl:n=1 ∨ n=2 ∨ n=3 ∨ n=4:=by omega
 all_goals exact ⟨by decide +kernel,by decide +kernel⟩
theorem one_okS {n q:Nat} {k:Int} (h:1<=n/\n<=4) (hq:q < n) (hk:k ∈ oneKs):okN n ⟨k,q,((0:Nat):Int),0⟩=true/\cliff k=true:=by
 have:=List.all_eq_true.1 (List.all_eq_true.1 (chk12 h).1 q (List.mem_range.2 hq)) k hk
 simp only [Bool.and_eq_true] at this
 exact this
theorem two_okS {n a b:Nat} (h:1<=n/\n<=4) (ha:a < n) (hb:b < n) (hab:a ≠ b):okN n ⟨9,a,b,0⟩=true/\okN n ⟨11,a,b,0⟩=true:=by
 have:=List.all_eq_true.1 (List.all_eq_true.1 (chk12 h).2 a (List.mem_range.2 ha)) b (List.mem_range.2 hb)
 rw [show (a == b)=false by simpa using hab,Bool.false_or] at this
 simp only [Bool.and_eq_true] at this
 exact this
theorem doS_ok {n:Nat} {s:SSt} {k:Int} {a b:Nat} (hs:SOk n s) (hg:okN n ⟨k,a,b,0⟩=true) (hc:cliff k=true):SOk n (doS n s k a b):=by
 refine ⟨appT_ok hg hc hs.1,fun g hg'=>?_⟩
 rcases List.mem_append.1 hg' with h | h
 ·exact hs.2 g h
 ·rw [List.mem_singleton.1 h];exact ⟨hg,hc⟩
theorem doS_1 {n q:Nat} {s:SSt} {k:Int} (hn:1<=n/\n<=4) (hs:SOk n s) (hq:q < n) (hk:k ∈ oneKs):SOk n (doS n s k q 0):=doS_ok hs (one_okS hn hq hk).1 (one_okS hn hq hk).2
theorem loopK_ok {n:Nat} {f:Nat->SSt->SSt} (hf:∀ k s,k < n->SOk n s->SOk n (f k s)):∀ (k m:Nat) (s:SSt),k+m<=n->SOk n s->SOk n (loopK f k m s)
 |_,0,s,_,h=>h
 |k,m+1,s,hk,h=>loopK_ok hf (k+1) m _ (by omega) (hf k s (by omega) h)
theorem loopK_ok' {n q:Nat} {f:Nat->SSt->SSt} (hf:∀ k s,q < k->k < n->SOk n s->SOk n (f k s)):∀ (k m:Nat) (s:SSt),q < k->k+m<=n->SOk n s->SOk n (loopK f k m s)
 |_,0,s,_,_,h=>h
 |k,m+1,s,hq,hk,h=>loopK_ok' hf (k+1) m _ (by omega) (by omega) (hf k s hq (by omega) h)
theorem f1_ok {n q k:Nat} {s:SSt} (hn:1<=n/\n<=4) (hk:k < n) (hs:SOk n s):SOk n (f1 n q k s):=by
 unfold f1
 split
 ·exact doS_1 hn hs hk (by simp [oneKs])
 ·split
  ·exact doS_1 hn hs hk (by simp [oneKs])
  ·exact hs
theorem f2_ok {n q k:Nat} {s:SSt} (hn:1<=n/\n<=4) (hq:q < k) (hk:k < n) (hs:SOk n s):SOk n (f2 n q k s):=by
 unfold f2
 split
 ·exact doS_ok hs (two_okS hn (by omega) hk (by omega)).1 (by decide)
 ·exact hs
theorem f3_ok {n q k:Nat} {s:SSt} (hn:1<=n/\n<=4) (hk:k < n) (hs:SOk n s):SOk n (f3 n q k s):=by
 unfold f3
 split
 ·exact doS_1 hn (doS_1 hn hs hk (by simp [oneKs])) hk (by simp [oneKs])
 ·split
  ·exact doS_1 hn hs hk (by simp [oneKs])
  ·exact hs
theorem f4_ok {n q k:Nat} {s:SSt} (hn:1<=n/\n<=4) (hq:q < k) (hk:k < n) (hs:SOk n s):SOk n (f4 n q k s):=by
 unfold f4
 split
 ·exact doS_ok hs (two_okS hn hk (by omega) (by omega)).1 (by decide)
 ·exact hs
theorem fndX_bd (r:List Pq) (q:Nat):∀ (m k:Nat),k<=fndX r q k m/\fndX r q k m<=k+m
 |0,k=>⟨zR,by simp [fndX]⟩
 |m+1,k=>by
  rw [fndX]
  split
  ·exact ⟨zR,by omega⟩
  ·have:=fndX_bd r q m (k+1)
   omega
theorem sw1_ok {n q:Nat} {s:SSt} (hn:1<=n/\n<=4) (hq:q < n) (hs:SOk n s):SOk n (sw1 n q s):=by
 have hb:=fndX_bd s.1 q (n - 1 - q) q
 unfold sw1
 split
 ·exact hs
 ·rename_i h
  exact doS_ok hs (two_okS hn hq (by omega) (fun e=>h e.symm)).2 (by decide)
theorem hH_ok {n q:Nat} {s:SSt} (hn:1<=n/\n<=4) (hq:q < n) (hs:SOk n s):SOk n (hH n q s):=by
 unfold hH
 split
 ·exact doS_1 hn (doS_1 hn (doS_1 hn hs hq (by simp [oneKs])) hq (by simp [oneKs])) hq (by simp [oneKs])
 ·exact hs
theorem pZ_ok {n q:Nat} {s:SSt} (hn:1<=n/\n<=4) (hq:q < n) (hs:SOk n s):SOk n (pZ n q s):=by
 unfold pZ
 split
 ·exact doS_1 hn hs hq (by simp [oneKs])
 ·exact hs
theorem pX_ok {n q:Nat} {s:SSt} (hn:1<=n/\n<=4) (hq:q < n) (hs:SOk n s):SOk n (pX n q s):=by
 unfold pX
 split
 ·exact doS_1 hn hs hq (by simp [oneKs])
 ·exact hs
theorem firstQ_ok {n q:Nat} {s:SSt} (hn:1<=n/\n<=4) (hq:q < n) (hs:SOk n s):SOk n (firstQ n q s) :=
 loopK_ok' (q:=q) (fun k s h1 h2 h3=>f2_ok hn h1 h2 h3) _ _ _ (by omega) (by omega) (sw1_ok hn hq (loopK_ok (fun k s h1 h2=>f1_ok hn h1 h2) _ _ _ (by omega) hs))
theorem secondQ_ok {n q:Nat} {s:SSt} (hn:1<=n/\n<=4) (hq:q < n) (hs:SOk n s):SOk n (secondQ n q s) :=
 pX_ok hn hq (pZ_ok hn hq (hH_ok hn hq (loopK_ok' (q:=q) (fun k s h1 h2 h3=>f4_ok hn h1 h2 h3) _ _ _ (by omega) (by omega) (loopK_ok (fun k s h1 h2=>f3_ok hn h1 h2) _ _ _ (by omega) hs))))
theorem redQ_ok {n:Nat} (hn:1<=n/\n<=4):∀ (m q:Nat) (s:SSt),q+m<=n->SOk n s->SOk n (redQ n q m s)
 |0,q,s,_,h=>h
 |m+1,q,s,hq,h=>redQ_ok hn m (q+1) _ (by omega) (secondQ_ok hn (by omega) (firstQ_ok hn (by omega) h))
theorem redT_ok {n:Nat} {r:List Pq} (hn:1<=n/\n<=4) (h:okT n r):∀ g ∈ redT n r,okN n g=true/\cliff g.k=true:=(redQ_ok hn n 0 (r,[]) (by omega) ⟨h,by simp⟩).2
theorem doS_len (n:Nat) (s:SSt) (k:Int) (a b:Nat):(doS n s k a b).2.length=s.2.length+1:=by simp [doS]
theorem f1_len (n q k:Nat) (s:SSt):(f1 n q k s).2.length<=s.2.length+1:=by unfold f1;(repeat' split)<;>simp [doS_len]
theorem f2_len (n q k:Nat) (s:SSt):(f2 n q k s).2.length<=s.2.length+1:=by unfold f2;(repeat' split)<;>simp [doS_len]
theorem f3_len (n q k:Nat) (s:SSt):(f3 n q k s).2.length<=s.2.length+2:=by unfold f3;(repeat' split)<;>simp [doS_len]
theorem f4_len (n q k:Nat) (s:SSt):(f4 n q k s).2.length<=s.2.length+1:=by unfold f4;(repeat' split)<;>simp [doS_len]
theorem sw1_len (n q:Nat) (s:SSt):(sw1 n q s).2.length<=s.2.length+1:=by unfold sw1;(repeat' split)<;>simp [doS_len]
theorem hH_len (n q:Nat) (s:SSt):(hH n q s).2.length<=s.2.length+3:=by unfold hH;(repeat' split)<;>simp [doS_len]
theorem pZ_len (n q:Nat) (s:SSt):(pZ n q s).2.length<=s.2.length+1:=by unfold pZ;(repeat' split)<;>simp [doS_len]
theorem pX_len (n q:Nat) (s:SSt):(pX n q s).2.length<=s.2.length+1:=by unfold pX;(repeat' split)<;>simp [doS_len]
theorem loopK_len {f:Nat->SSt->SSt} {c:Nat} (hf:∀ k s,(f k s).2.length<=s.2.length+c):∀ (m k:Nat) (s:SSt),(loopK f k m s).2.length<=s.2.length+c * m
 |0,k,s=>zR
 |m+1,k,s=>by
  have h1:=loopK_len hf m (k+1) (f k s)
  have h2:=hf k s
  rw [loopK,Nat.mul_succ]
  omega
theorem firstQ_len {n q:Nat} (hn:n<=4) (s:SSt):(firstQ n q s).2.length<=s.2.length+9:=by
 unfold firstQ
 have h1:=loopK_len (f1_len n q) (n - q) q s
 have h2:=sw1_len n q (loopK (f1 n q) q (n - q) s)
 have h3:=loopK_len (f2_len n q) (n - (q+1)) (q+1) (sw1 n q (loopK (f1 n q) q (n - q) s))
 omega
theorem secondQ_len {n q:Nat} (hn:n<=4) (s:SSt):(secondQ n q s).2.length<=s.2.length+14+3:=by
 unfold secondQ
 have h1:=loopK_len (f3_len n q) (n - (q+1)) (q+1) s
 have h2:=loopK_len (f4_len n q) (n - (q+1)) (q+1) (loopK (f3 n q) (q+1) (n - (q+1)) s)
 have h3:=hH_len n q (loopK (f4 n q) (q+1) (n - (q+1)) (loopK (f3 n q) (q+1) (n - (q+1)) s))
 have h4:=pZ_len n q (hH n q (loopK (f4 n q) (q+1) (n - (q+1)) (loopK (f3 n q) (q+1) (n - (q+1)) s)))
 have h5:=pX_len n q (pZ n q (hH n q (loopK (f4 n q) (q+1) (n - (q+1)) (loopK (f3 n q) (q+1) (n - (q+1)) s))))
 omega
theorem redQ_len {n:Nat} (hn:n<=4):∀ (m q:Nat) (s:SSt),(redQ n q m s).2.length<=s.2.length+26 * m
 |0,q,s=>zR
 |m+1,q,s=>by
  have h1:=redQ_len hn m (q+1) (secondQ n q (firstQ n q s))
  have h2:=secondQ_len (q:=q) hn (firstQ n q s)
  have h3:=firstQ_len (q:=q) hn s
  rw [redQ]
  omega
theorem loopK_next {f:Nat->SSt->SSt} {n k m:Nat} {s S:SSt} (hlt:k < n) (hk:k+m=n) (h:loopK f k m s=S):loopK f (k+1) (m - 1) (f k s)=S:=by
 obtain ⟨j,rfl⟩:∃ j,m=j+1:=⟨m - 1,by omega⟩
 rw [loopK] at h
 exact h
theorem fndX_step {r:List Pq} {q k n F:Nat} (hlt:k < n - 1) (h:fndX r q k (n - 1 - k)=F):(if xB r q k=true then k else fndX r q (k+1) (n - 1 - (k+1)))=F:=by
 obtain ⟨j,hj⟩:∃ j,n - 1 - k=j+1:=⟨n - 1 - k - 1,by omega⟩
 rw [hj,fndX] at h
 rw [show n - 1 - (k+1)=j by omega]
 exact h
def synL (l:List Gt) (n:Nat):List Gt:=invL (redT n (runT n l (idT n)))
set_option linter.unusedVariables false
section
variable {P:Program} {w:World}
theorem run_appK (base:Nat) (t ty e:TypeId) {z:Value} {size bytes:Nat} (ht:P.underlying t=some (.slice e)) (hinfo:(P.info? e).map (fun i=>(i.zero,i.size,i.bytes))=some (some z,size,bytes))
  (hzs:z.cells.size=size) (hsz:0 < size) (g n c:Nat) (xs:List Value) (hown:w.ownsRow base e size (.slice (some ⟨g,0,none⟩) n c) n xs)
  (a:Addr) (m c':Nat) (news:List Value) (hl:news.length=m * size) (hnews:∀ j u,news[j]? = some u->w.cell? (a.add j)=some u) (h1:∀ u ∈ news,u.oneCell'=true)
  (hbytes:(n+m) * bytes<=140737488355328) (hby:0 < bytes) (hbase:base<=w.heap.size) :
  ∃ A'' c'' w',(Builtin.append_ #[t,t] ty #[.slice (some ⟨g,0,none⟩) n c,.slice (some a) m c']).run P w=.ok (.slice A'' (n+m) c'') w'/\w'.ownsRow base e size (.slice A'' (n+m) c'') (n+m) (xs++news)/\w.grownBy w' (some g)/\∀ j u,xs[j]? = some u->w'.cell? ⟨g,j,none⟩=some u:=by
 obtain ⟨i,hi,hz,hs,hb⟩:=info_parts hinfo
 have h63:n+m<=maxLen:=by
  have h:=Nat.le_trans (Nat.le_mul_of_pos_right (n+m) hby) hbytes
  simp only [maxLen]
  omega
 obtain ⟨v',w',hrun,h2,h3,_,hat⟩:=run_append_own_at (P:=P) w base t ty e i z size bytes ht hi hz hs hb hzs hsz _ n xs hown a m c' news hl hnews h1 h63 hbytes hbase
 obtain ⟨A'',c'',rfl⟩:=ownsRow_shape h2
 refine ⟨A'',c'',w',hrun,h2,h3,fun j u hu=>?_⟩
 have hcell:∀ (w0:World) (b0:Nat) (e0:TypeId) (s0 n0 c0 g0:Nat) (ys:List Value),w0.ownsRow b0 e0 s0 (.slice (some ⟨g0,0,none⟩) n0 c0) n0 ys->∀ j u,ys[j]? = some u->w0.cell? ⟨g0,j,none⟩=some u:=by
  intro w0 b0 e0 s0 n0 c0 g0 ys h j u hu
  rcases h.2 with ⟨h0,_⟩ | ⟨g1,cap,cur,hv,_,hg,hnc,_,hcs,htk⟩
  ·cases h0
  ·simp only [Value.slice.injEq,Option.some.injEq,Addr.mk.injEq,and_true] at hv
   obtain ⟨rfl,_⟩:=hv
   rw [cell_of_row w0 g0 j cur e0 (0,0) hg]
   rw [<- htk,List.getElem?_take] at hu
   split at hu
   ·simpa using hu
   ·cases hu
 subst hs hb
 by_cases hroom:n+m<=c
 ·rcases hown.2 with ⟨h0,_⟩ | ⟨g1,cap,cur,hv,hbg,hg,hnc,hcm,hcs,htk⟩
  ·cases h0
  ·simp only [Value.slice.injEq,Option.some.injEq,Addr.mk.injEq,and_true] at hv
   obtain ⟨rfl,rfl⟩:g=g1/\c=cap:=by omega
   have hfit:n * i.size+news.length<=cur.size:=by rw [hl,hcs,<- Nat.add_mul];exact Nat.mul_le_mul_right _ hroom
   have hr:=run_append_room (P:=P) w t ty e i ht hi g n c cur hg a m c' news hl hnews h1 hroom hfit
   rw [hrun] at hr
   injection hr with hr1 hr2
   simp only [Value.slice.injEq] at hr1
   obtain ⟨rfl,_,rfl⟩:=hr1
   exact hcell _ _ _ _ _ _ _ _ h2 j u (by rw [List.getElem?_append_left (List.getElem?_eq_some_iff.1 hu).1];exact hu)
 ·have hold:w.cell? ⟨g,j,none⟩=some u:=hcell _ _ _ _ _ _ _ _ hown j u hu
  have holds:∀ j u,xs[j]? = some u->w.cell? ((⟨g,0,none⟩:Addr).add j)=some u:=fun j u hu=>by
   have:=hcell _ _ _ _ _ _ _ _ hown j u hu
   unfold Addr.add
   split
   ·subst j;exact this
   ·simpa using this
  have hr:=run_append_grow (P:=P) w t ty e i z ht hi hz ⟨g,0,none⟩ n c xs hown.1 holds a m c' news hl hnews (by omega) (by simp only [maxLen] at h63;omega) (growslice_fits (by omega) hbytes)
  rw [hrun] at hr
  injection hr with hr1 hr2
  rw [hr2]
  have hlt:=World.block_lt_of_cell? w _ hold
  exact (((Below.refl w.heap.size w).drew.alloc zR _).cell (p:=⟨g,j,none⟩) hlt).trans hold
theorem step_appK {ops:Array Oper} {o:Oper} {a:Act} {K:Act->World->Prop} {Q:Exit->Act->World->Prop} {E:Prop} (hgd:o.guard=none) (s x:Operand) (t:TypeId)
  (ho:o.op=.call { callee:=.builtin .append,args:=#[s,x],argTypes:=#[t,t] })
  {base e:Nat} {z:Value} {size bytes:Nat} (ht:P.underlying t=some (.slice e)) (hinfo:(P.info? e).map (fun i=>(i.zero,i.size,i.bytes))=some (some z,size,bytes))
  (hzs:z.cells.size=size) (hsz:0 < size) {g n c:Nat} {xs:List Value} (hs:a.eval s=.slice (some ⟨g,0,none⟩) n c) (hown:w.ownsRow base e size (.slice (some ⟨g,0,none⟩) n c) n xs)
  {b m c':Nat} {news:List Value} (hx:a.eval x=.slice (some ⟨b,0,none⟩) m c') (hl:news.length=m * size) (hr:∀ j u,news[j]? = some u->w.cell? ⟨b,j,none⟩=some u) (h1:∀ u ∈ news,u.oneCell'=true)
  (hbytes:(n+m) * bytes<=140737488355328) (hby:0 < bytes) (hbase:base<=w.heap.size)
  (h:∀ A'' c'' w',w'.ownsRow base e size (.slice A'' (n+m) c'') (n+m) (xs++news)->w.grownBy w' (some g)->(∀ j u,xs[j]? = some u->w'.cell? ⟨g,j,none⟩=some u)->K (a.put o.dst (.slice A'' (n+m) c'')) w') :
  if Region.wanted o (yielded ops a.tmps)=true then Oper.wp P o a w K Q else E:=by
 have hw:Region.wanted o (yielded ops a.tmps)=true:=by simp [Region.wanted,hgd]
 rw [if_pos hw]
 obtain ⟨A'',c'',w',hrun,h2,h3,h4⟩:=run_appK (P:=P) base t o.type e ht hinfo hzs hsz g n c xs hown ⟨b,0,none⟩ m c' news hl (fun j u hu=>by
  have:=hr j u hu
  unfold Addr.add
  split
  ·subst j;exact this
  ·simpa using this) h1 hbytes hby hbase
 unfold Oper.wp execOp
 simp only [ho,resolve,invoke,builtin,Sem.run_bind,Sem.run_pure,Result.andThen_ok,List.map_toArray,List.map_cons,List.map_nil,hs,hx,hrun]
 exact h A'' c'' w' h2 h3 h4
end
def RetPB (r:Po × Bool) (w:World) (e:Ending) (w':World):Prop:=∃ v,e=.returned (.tuple #[v,.bool r.2])/\OwnPoly w' w.heap.size r.1.N r.1.H r.1.t r.1.o v/\Below w.heap.size w w'
theorem okG_abn {k a b c n:Int} (h:okG k a b c n=true):1<=n/\n<=4/\0<=a/\a < n/\0<=b/\b < n:=by
 unfold okG at h
 simp only [Bool.and_eq_true,decide_eq_true_eq] at h
 obtain ⟨h1,h2,h3⟩:=h
 obtain ⟨h4,h5⟩:=inB_iff.1 h1
 rcases arity_cases k with ⟨_,_,ha⟩ | ⟨_,_,ha⟩ | ⟨_,ha⟩ | ⟨_,ha⟩
 ·rw [ha] at h3
  simp [okQ,badQ,inB,hasI] at h3
  omega
 ·rw [ha] at h3
  simp [okQ,badQ,inB,hasI] at h3
  omega
 ·rw [ha] at h3
  simp [okQ,badQ,inB,hasI] at h3
  omega
 ·omega
theorem okG_ne {k a b c n:Int} (h:okG k a b c n=true) (hk:arity k=2):b ≠ a:=by
 unfold okG at h
 simp only [Bool.and_eq_true,decide_eq_true_eq] at h
 obtain ⟨h1,h2,h3⟩:=h
 rw [hk] at h3
 simp [okQ,badQ,inB,hasI] at h3
 omega
theorem okP_parts {p:Po} {g:Gt} (h:okP p g=true):okG g.k g.a g.b g.c p.N=true/\(p.o.length:Int)=p.N:=by
 unfold okP at h
 simpa using h
theorem okP_no {p:Po} {g:Gt} (h:okP p g=false):okG g.k g.a g.b g.c p.N=false ∨ (okG g.k g.a g.b g.c p.N=true/\(p.o.length:Int) ≠ p.N):=by
 unfold okP at h
 cases h1:okG g.k g.a g.b g.c p.N
 ·exact .inl rfl
 ·right
  rw [h1] at h
  simpa using h
theorem below_al {a w:World} {o:Obj} (h:Below a.heap.size a w):Below a.heap.size a (w.alloc o):=h.alloc h.size _
theorem own_set_ne {w:World} {base:Nat} {e:TypeId} {sz n:Nat} {v:Value} {xs:List Value} (h:w.ownsRow base e sz v n xs) {p:Addr} (hp:some p.block ≠ v.ownBlock) (u:Value):(w.setCell p u).ownsRow base e sz v n xs:=by
 have hg:w.grownBy (w.setCell p u) (some p.block):=⟨rfl,rfl,rfl,by simp [World.setCell],fun k hk hne=>Below.heap_setCell w _ _ k (fun e=>hne (by rw [e]))⟩
 exact h.kept hg (.inr (fun e=>hp e.symm))
theorem bx_b {w w':World} {g t B:Nat} {cs:Array Value} (h:Bx w g t cs) (hb:Below B w w') (hg:g < B):Bx w' g t cs:=(hb.block g hg).trans h
theorem xor_comm64 (a b:Int):bits .xor .i64 a b=bits .xor .i64 b a:=by
 show IntKind.i64.wrap ((BitVec.ofInt 64 a ^^^ BitVec.ofInt 64 b).toNat:Int)=IntKind.i64.wrap ((BitVec.ofInt 64 b ^^^ BitVec.ofInt 64 a).toNat:Int)
 rw [BitVec.xor_comm]
theorem own2At {w:World} {base:Nat} {e:TypeId} {n c:Nat} {A:Option Addr} {l:List (Int × Int)} (ho:w.ownsRow base e 2 (.slice A n c) n (cellsP l)) {k:Nat} (hk:k < n) :
  ∃ (g:Nat),A=some ⟨g,0,none⟩/\base<=g/\g < w.heap.size/\w.cell? ⟨g,k * 2,none⟩=some (.int .i64 (l.getD k (0,0)).1)/\w.cell? ⟨g,k * 2+1,none⟩=some (.int .i64 (l.getD k (0,0)).2)/\w.frozen? ⟨g,k * 2,none⟩=false/\w.frozen? ⟨g,k * 2+1,none⟩=false:=by
 have hL:l.length=n:=by have:=ho.1;rw [length_cellsP] at this;omega
 obtain ⟨g,rfl⟩:=own_some ho (by omega)
 have hd:l.drop k=(l.getD k (0,0)) :: l.drop (k+1):=by
  rw [drop_cons (by omega),List.getD_eq_getElem?_getD,List.getElem?_eq_getElem (by omega),Option.getD_some]
 have f2:=flat2 _ _ _ _ hd
 have hg:=ho.lt g rfl
 exact ⟨g,rfl,hg.1,hg.2,(ho.cellAt (k * 2) (by omega)).trans f2.1,(ho.cellAt (k * 2+1) (by omega)).trans f2.2,ho.frozenAt _,ho.frozenAt _⟩
theorem rd2At {w:World} {n:Nat} {A:Option Addr} {l:List (Int × Int)} (h:RdP w A n l) {k:Nat} (hk:k < n) :
  ∃ (b off:Nat),A=some ⟨b,off,none⟩/\b < w.heap.size/\w.cell? ⟨b,off+k * 2,none⟩=some (.int .i64 (l.getD k (0,0)).1)/\w.cell? ⟨b,off+k * 2+1,none⟩=some (.int .i64 (l.getD k (0,0)).2):=by
 obtain ⟨b,off,x,y,e,hb,hd,c0,c1⟩:=h.at_ hk
 have hx:l.getD k (0,0)=(x,y):=by
  have:=congrArg (fun r=>r[0]?) hd
  rw [List.getD_eq_getElem?_getD]
  simp at this
  rw [this];rfl
 rw [hx]
 exact ⟨b,off,e,hb,c0,c1⟩
theorem set_pair (l:List (Int × Int)) (k:Nat) (x y:Int) (hk:k < l.length):((cellsP l).set (k * 2) (.int .i64 x)).set (k * 2+1) (.int .i64 y)=cellsP (l.set k (x,y)):=by
 obtain ⟨a,z,r,rfl,rfl⟩:∃ a z r,l=a++z :: r/\a.length=k:=⟨l.take k,l[k],l.drop (k+1),by rw [<- drop_cons hk,List.take_append_drop],by rw [List.length_take];omega⟩
 have hlen:=length_cellsP a
 rw [cellsP_append,List.set_append,if_neg (by omega),List.set_append,if_neg (by omega),hlen]
 simp [cellsP,show a.length * 2+1 - a.length * 2=1 by omega]
theorem set_two (l:List (Int × Int)) (k:Nat) (y:Int) (hk:k < l.length):(cellsP l).set (k * 2+1) (.int .i64 y)=cellsP (l.set k ((l.getD k (0,0)).1,y)):=by
 have h:=set_pair l k (l.getD k (0,0)).1 y hk
 rw [<- h]
 congr 1
 have f2:=(flat2 l k (l.getD k (0,0)) (l.drop (k+1)) (by rw [drop_cons hk,List.getD_eq_getElem?_getD,List.getElem?_eq_getElem hk,Option.getD_some])).1
 apply List.ext_getElem?
 intro i
 rw [List.getElem?_set]
 split
 ·subst i
  rw [f2]
  split
  ·rfl
  ·rename_i h0
   rw [List.getElem?_eq_none (by omega)] at f2
   cases f2
 ·rfl
set_option linter.unusedVariables false
def PAt (W:World) (gp base:Nat) (N H:Int) (t o:List (Int × Int)):Prop :=
 ∃ (A:Option Addr) (c:Nat) (B:Option Addr) (d:Nat),Bx W gp 88 #[.int .i64 N,.int .i64 H,.slice A t.length c,.slice B o.length d]/\W.ownsRow base 128 2 (.slice A t.length c) t.length (cellsP t)/\W.ownsRow base 93 2 (.slice B o.length d) o.length (cellsP o)
theorem PAt.below {W W':World} {gp base:Nat} {N H:Int} {t o:List (Int × Int)} (h:PAt W gp base N H t o) (hb:Below W.heap.size W W'):PAt W' gp base N H t o:=by
 obtain ⟨A,c,B,d,h1,h2,h3⟩:=h
 exact ⟨A,c,B,d,h1.below hb,ownsRow_below h2 hb,ownsRow_below h3 hb⟩
theorem wrapk_eq (n:Int):IntKind.i64.wrap n=wrap64 n:=by rw [IntKind.wrap_i64];unfold wrap64;omega
theorem wrapk_mod8 (n:Int):IntKind.i64.wrap n % 8=n % 8:=by rw [IntKind.wrap_i64];omega
theorem rd_l2 (c:Array Value) (W:World) (e:TypeId) (x y:Value):Rd ((W.alloc (.cells c e)).alloc (.cells #[x,y] e)) 2 (some ⟨W.heap.size+1,0,none⟩) 1 [x,y]:=by
 have:=Rd.lit (W.alloc (.cells c e)) e #[x,y] 1 2 rfl
 rw [World.size_alloc] at this
 exact this
def rotT (t:List (Int × Int)) (p:Int × Int) (u:Int):List (Int × Int):=if (p.2 == 0)=true then addT t p.1 u else addT t p.1 (-u)
def rotH (H:Int) (p:Int × Int) (u:Int):Int:=if (p.2 == 0)=true then H else (H+u) % 8
set_option maxRecDepth 100000 in
theorem i_rotate0 (gp base:Nat) (N H:Int) (t o:List (Int × Int)) (m u:Int) (w:World) (hp:PAt w gp base N H t o) (hb:base<=w.heap.size) (hbg:base<=gp) (hn:t.length<=274877906944)  :
  Calls Tryz.prog 125 #[.pointer (some ⟨gp,0,none⟩),.agg #[.int .i64 m,.int .i64 0],.int .i64 u] w fun e w'=>e=.returned (.tuple #[])/\PAt w' gp base N H (addT t m u) o/\Below base w w':=by
 obtain ⟨A,c,B,d,hx,ht,ho⟩:=hp
 obtain ⟨n,hnl⟩:∃ n,t.length=n:=⟨_,rfl⟩
 obtain ⟨no,hno⟩:∃ n,o.length=n:=⟨_,rfl⟩
 rw [hnl] at hx ht hn
 rw [hno] at hx ho
 have HNO:=zH hno
 have HNL:=zH hnl
 have HX:=zH (hx.alloc (.cells #[.int .i64 m,.int .i64 0] 93))
 have HT:=zH (ht.alloc (.cells #[.int .i64 m,.int .i64 0] 93))
 have HO:=zH (ho.alloc (.cells #[.int .i64 m,.int .i64 0] 93))
 have XL:=zH (Bx.new w 93 #[.int .i64 m,.int .i64 0])
 have hgp:=hx.lt
 have BW:=zH (show Below base w (w.alloc (.cells #[.int .i64 m,.int .i64 0] 93)) from (zW).alloc hb _)
 have hb1:base<=(w.alloc (.cells #[.int .i64 m,.int .i64 0] 93)).heap.size:=by simp;omega
 obtain ⟨R,hR⟩:∃ R,addT t m u=R:=⟨_,rfl⟩
 have HR:=zH hR
 rw [hR]
 obtain ⟨ka,hka⟩:∃ k,atT t m=k:=⟨_,rfl⟩
 have HKA:=zH hka
 have HKL:=zH (show ka < (withT t m).length from by rw [<- hka];exact atT_lt t m)
 have hWL:=(withT_len t m).2
 have hkaL0:=HKL.out
 obtain ⟨LL,hLL⟩:∃ k,(withT t m).length=k:=⟨_,rfl⟩
 rw [hLL,hnl] at hWL
 rw [hLL] at hkaL0
 have hka0:(0:Int)<=(ka:Int):=by omega
 have hkaI:(ka:Int) < (LL:Int):=by omega
 have HLL:=zH hLL
 clear hx ht ho hnl hno hR hka hLL
 go_enter Tryz.func125,Tryz.ntmps125
 go_wp2_with fail
 refine (i_termAt gp base N H A n c t _ m _ HX.out HT.out hb1 (by omega)).mono ?_
 rintro e w1 ⟨A1,c1,rfl,x1,t1,g1⟩
 rw [HKA.out]
 rw [HLL.out] at x1 t1
 have O1:=zH (HO.out.kept g1 (.inr (fun e=>own_bx_ne HO.out HX.out (by decide) e.symm)))
 have XL1:=zH (XL.out.grown g1 (by intro e;injection e;omega))
 have B1:=zH (show Below base w w1 from BW.out.grown g1 hb1 (fun k hk=>by injection hk;omega))
 have hs1:w.heap.size < w1.heap.size:=XL1.out.lt
 have hg1:gp < w1.heap.size:=x1.lt
 have hngl:w.heap.size ≠ gp:=by omega
 obtain ⟨p0,p1,p2,p3,f0,f1,f2,f3⟩:=x1.four
 obtain ⟨l0,l1,_⟩:=XL1.out.two
 have X1:=zH x1
 have T1:=zH t1
 clear x1 t1
 go_wp2_with fail
 have x2:=X1.out
 have t2:=T1.out
 have O2:=O1
 have B2:=B1
 clear X1 T1 O1 B1 XL1 p0 p1 p2 p3 f0 f1 f2 f3 l0 l1
 generalize w1=wz at x2 t2 O2 B2 ⊢
 have X2:=zH x2
 have hgz:gp < wz.heap.size:=x2.lt
 obtain ⟨p0,p1,p2,p3,f0,f1,f2,f3⟩:=x2.four
 have HP:=bump_prep ka u _ t2 HKL.out B2.out zR
 obtain ⟨gx,x,y,rfl,e0,e1,z1,hgx,hL,SO,SB,SG⟩:=HP
 have hngx:gx ≠ gp:=by have:=own_bx_ne t2 x2 (by decide);intro e;exact this (by rw [e];rfl)
 have hngx':gp ≠ gx:=fun e=>hngx e.symm
 have OT:=zH (O2.out.kept SG (own_types O2.out t2 (by decide)))
 have XT:=zH (X2.out.far (p:=⟨gx,ka * 2+1,none⟩) hngx' (.int .i64 ((y+u) % 8)))
 clear x2 t2 O2 B2 SG hngl
 go_still_tail 18,(by kernel_rfl)
 still_call ((i_mod8 _ _).mono fun _ _ h=>⟨h.1,h.2.symm⟩)
 repeat still_step
 refine wpStill_nil ?_
 change wpList Tryz.prog _ _ _ _ wz.drew
 rw [wrapk_mod8]
 rw [wrapk_eq]
 skip
 obtain ⟨b,hb'⟩:∃ b,bump (withT t m) ka u=b:=⟨_,rfl⟩
 rw [hb'] at SO
 have HBL:Hid (b.length=LL):=zH (by rw [<- hb',bump_len,HLL.out])
 have HRB:Hid (nz b=R):=zH (by rw [<- hb',<- HR.out];unfold addT;rw [HKA.out])
 have SR:=zH (RdP.own SO.out)
 clear hb'
 go_wp2_with fail
 clear e0 e1 z1 p0 p1 p2 p3 f0 f1 f2 f3 X2
 obtain ⟨wy,hwy⟩:∃ wy,wy=wz.setCell ⟨gx,ka * 2+1,none⟩ (.int .i64 ((y+u) % 8)):=⟨_,rfl⟩
 rw [<- hwy] at SR SB SO OT XT ⊢
 have HSY:Hid (wy.heap.size=wz.heap.size):=zH (by rw [hwy];simp [World.setCell])
 clear hwy
 have hgy:gp < wy.heap.size:=XT.out.lt
 go_loopg [7,69] LL (fun r v i wr=>∃ (k q:Nat) (A0:Option Addr) (c0:Nat),k+r=LL/\i=.int .i64 k/\v=.slice A0 q c0/\q<=k/\(nz (b.take k)).length=q/\wr.ownsRow wy.heap.size 128 2 (.slice A0 q c0) q (cellsP (nz (b.take k)))/\Below wy.heap.size wy wr)
 case atStart=>exact ⟨0,0,_,_,by omega,rfl,rfl,zR,by simp [nz],by rw [<- HSY.out];simpa [nz,cellsP] using ownsRow_drew (World.ownsRow_lit wy #[] 0 (size:=2) (e:=128) zR (by simp [maxLen]) rfl),((zW).alloc zR _).drew⟩
 case round =>
  obtain ⟨k,q,A0,c0,hk,rfl,rfl,hqk,hq,ho,hbw⟩:=hrel
  have HQ:=zH hq
  have HO:=zH ho
  have HB:=zH hbw
  have hbs:=hbw.size
  clear hq ho hbw
  by_cases hlt:k < LL
  ·obtain ⟨bb,off,u',v,hA,hBb,hd,d0,d1⟩:=(SR.out.below HB.out).at_ hlt
   injection hA with hA
   injection hA with hA1 hA2 _
   subst hA1 hA2
   rw [Nat.zero_add] at d0 d1
   have HD:=zH hd
   have HN:Hid (nz (b.take (k+1))=nz (b.take k)++(if (v == 0)=true then [] else [(u',v)])):=zH (by rw [take_snoc HD.out,nz_snoc])
   have hkI:(k:Int) < (LL:Int):=by omega
   have hk0:(0:Int)<=(k:Int):=by omega
   clear hd
   by_cases hv:v=0
   ·subst hv
    go_wp2_with fail
    go_roundg (gk - 1)
    case measure=>omega
    case rel=>exact ⟨k+1,q,A0,c0,by omega,by go_num,rfl,by omega,by rw [HN.out];simpa using HQ.out,by rw [HN.out];simpa using World.ownsRow.alloc HO.out _,HB.out.alloc hbs _⟩
   ·have hv1:(v == 0)=false:=by simpa using hv
    have HV:=zH hv1
    have hv2:(v != 0)=true:=by simp [bne,hv1]
    have DA:=zH ((HO.out.alloc (.cells #[.int .i64 u',.int .i64 v] 128)).alloc (.cells #[.int .i64 u',.int .i64 v] 128))
    go_wp2_with (at_builtin;refine wpList_app rfl (.tmp 76) (.tmp 78) 85 rfl Tryz.underlying85 infoPhaseTerm rfl (by decide) rfl DA.out rfl (rd_l2 _ wr 128 _ _) (by simp [Value.oneCell']) (by omega) (by decide) (by simp<;>omega) ?_;intro A5 c5 w5 o5 g5)
    go_roundg (gk - 1)
    case measure=>omega
    case rel =>
     refine ⟨k+1,q+1,A5,c5,by omega,by go_num,rfl,by omega,by rw [HN.out,HV.out];simp [HQ.out],?_,below_grown ((HB.out.alloc hbs _).alloc (by simp;omega) _) (by simp;omega) DA.out zR g5⟩
     rw [HN.out,HV.out]
     rw [show nz (b.take k)++(if false=true then [] else [(u',v)])=nz (b.take k)++[(u',v)] from rfl,cellsP_append]
     exact o5
  ·have hkL:k=LL:=by omega
   have XE:=zH (XT.out.below HB.out)
   obtain ⟨p0,p1,p2,p3,f0,f1,f2,f3⟩:=XE.out.four
   go_wp2_with fail
   have e:nz (b.take k)=R:=by rw [List.take_of_length_le (by have:=HBL.out;omega),HRB.out]
   have HOO:=HO.out
   have HQQ:=HQ.out
   rw [e] at HOO HQQ
   subst HQQ
   have hbz:base<=wy.heap.size:=by have:=SB.out.size;omega
   have e1:some gp ≠ (Value.slice A0 R.length c0).ownBlock:=by intro e;have:=(HOO.lt gp e.symm).1;omega
   go_end0
   refine ⟨rfl,⟨A0,c0,B,d,by rw [HNO.out];exact XE.out.s2 _,own_set_ne (ownsRow_base HOO hbz) e1 _,by rw [HNO.out];exact own_set_ne (ownsRow_below OT.out HB.out) (own_bx_ne (ownsRow_below OT.out HB.out) XE.out (by decide)) _⟩,(SB.out.trans (HB.out.mono hbz)).setCell (show base<=gp from hbg) _⟩
set_option maxRecDepth 100000 in
theorem i_rotate1 (gp base:Nat) (N H:Int) (t o:List (Int × Int)) (m f u:Int) (w:World) (hp:PAt w gp base N H t o) (hb:base<=w.heap.size) (hbg:base<=gp) (hn:t.length<=274877906944) (hf:(f == 0)=false) :
  Calls Tryz.prog 125 #[.pointer (some ⟨gp,0,none⟩),.agg #[.int .i64 m,.int .i64 f],.int .i64 u] w fun e w'=>e=.returned (.tuple #[])/\PAt w' gp base N ((H+u) % 8) (addT t m (-u)) o/\Below base w w':=by
 obtain ⟨A,c,B,d,hx,ht,ho⟩:=hp
 obtain ⟨n,hnl⟩:∃ n,t.length=n:=⟨_,rfl⟩
 obtain ⟨no,hno⟩:∃ n,o.length=n:=⟨_,rfl⟩
 rw [hnl] at hx ht hn
 rw [hno] at hx ho
 have HNO:=zH hno
 have HNL:=zH hnl
 have HX:=zH (hx.alloc (.cells #[.int .i64 m,.int .i64 f] 93))
 have HT:=zH (ht.alloc (.cells #[.int .i64 m,.int .i64 f] 93))
 have HO:=zH (ho.alloc (.cells #[.int .i64 m,.int .i64 f] 93))
 have XL:=zH (Bx.new w 93 #[.int .i64 m,.int .i64 f])
 have hgp:=hx.lt
 have BW:=zH (show Below base w (w.alloc (.cells #[.int .i64 m,.int .i64 f] 93)) from (zW).alloc hb _)
 have hb1:base<=(w.alloc (.cells #[.int .i64 m,.int .i64 f] 93)).heap.size:=by simp;omega
 obtain ⟨R,hR⟩:∃ R,addT t m (-u)=R:=⟨_,rfl⟩
 have HR:=zH hR
 rw [hR]
 obtain ⟨ka,hka⟩:∃ k,atT t m=k:=⟨_,rfl⟩
 have HKA:=zH hka
 have HKL:=zH (show ka < (withT t m).length from by rw [<- hka];exact atT_lt t m)
 have hWL:=(withT_len t m).2
 have hkaL0:=HKL.out
 obtain ⟨LL,hLL⟩:∃ k,(withT t m).length=k:=⟨_,rfl⟩
 rw [hLL,hnl] at hWL
 rw [hLL] at hkaL0
 have hka0:(0:Int)<=(ka:Int):=by omega
 have hkaI:(ka:Int) < (LL:Int):=by omega
 have HLL:=zH hLL
 clear hx ht ho hnl hno hR hka hLL
 go_enter Tryz.func125,Tryz.ntmps125
 go_wp2_with fail
 refine (i_termAt gp base N H A n c t _ m _ HX.out HT.out hb1 (by omega)).mono ?_
 rintro e w1 ⟨A1,c1,rfl,x1,t1,g1⟩
 rw [HKA.out]
 rw [HLL.out] at x1 t1
 have O1:=zH (HO.out.kept g1 (.inr (fun e=>own_bx_ne HO.out HX.out (by decide) e.symm)))
 have XL1:=zH (XL.out.grown g1 (by intro e;injection e;omega))
 have B1:=zH (show Below base w w1 from BW.out.grown g1 hb1 (fun k hk=>by injection hk;omega))
 have hs1:w.heap.size < w1.heap.size:=XL1.out.lt
 have hg1:gp < w1.heap.size:=x1.lt
 have hngl:w.heap.size ≠ gp:=by omega
 obtain ⟨p0,p1,p2,p3,f0,f1,f2,f3⟩:=x1.four
 obtain ⟨l0,l1,_⟩:=XL1.out.two
 have X1:=zH x1
 have T1:=zH t1
 clear x1 t1
 go_wp2_with fail
 refine (i_mod8 _ _).mono ?_
 rintro e wq ⟨rfl,rfl⟩
 rw [wrap_mod8]
 go_wp2_with fail
 have x2:=X1.out.s1 (.int .i64 ((H+u) % 8))
 have t2:=own_set_ne T1.out (p:=⟨gp,1,none⟩) (own_bx_ne T1.out X1.out (by decide)) (.int .i64 ((H+u) % 8))
 have O2:=zH (own_set_ne O1.out (p:=⟨gp,1,none⟩) (own_bx_ne O1.out X1.out (by decide)) (.int .i64 ((H+u) % 8)))
 have B2:=zH (B1.out.setCell (p:=⟨gp,1,none⟩) (show base<=gp from hbg) (.int .i64 ((H+u) % 8)))
 clear X1 T1 O1 B1 XL1 p0 p1 p2 p3 f0 f1 f2 f3 l0 l1
 generalize w1.setCell ⟨gp,1,none⟩ (.int .i64 ((H+u) % 8))=wz at x2 t2 O2 B2 ⊢
 have X2:=zH x2
 have hgz:gp < wz.heap.size:=x2.lt
 obtain ⟨p0,p1,p2,p3,f0,f1,f2,f3⟩:=x2.four
 have HP:=bump_prep ka (-u) _ t2 HKL.out B2.out zR
 obtain ⟨gx,x,y,rfl,e0,e1,z1,hgx,hL,SO,SB,SG⟩:=HP
 have hngx:gx ≠ gp:=by have:=own_bx_ne t2 x2 (by decide);intro e;exact this (by rw [e];rfl)
 have hngx':gp ≠ gx:=fun e=>hngx e.symm
 have OT:=zH (O2.out.kept SG (own_types O2.out t2 (by decide)))
 have XT:=zH (X2.out.far (p:=⟨gx,ka * 2+1,none⟩) hngx' (.int .i64 ((y+(-u)) % 8)))
 clear x2 t2 O2 B2 SG hngl
 go_still_tail 18,(by kernel_rfl)
 still_call ((i_mod8 _ _).mono fun _ _ h=>⟨h.1,h.2.symm⟩)
 repeat still_step
 refine wpStill_nil ?_
 change wpList Tryz.prog _ _ _ _ wz.drew
 rw [wrapk_mod8]
 rw [wrapk_eq]
 simp only [<- Int.sub_eq_add_neg] at SO SB OT XT
 obtain ⟨b,hb'⟩:∃ b,bump (withT t m) ka (-u)=b:=⟨_,rfl⟩
 rw [hb'] at SO
 have HBL:Hid (b.length=LL):=zH (by rw [<- hb',bump_len,HLL.out])
 have HRB:Hid (nz b=R):=zH (by rw [<- hb',<- HR.out];unfold addT;rw [HKA.out])
 have SR:=zH (RdP.own SO.out)
 clear hb'
 go_wp2_with fail
 clear e0 e1 z1 p0 p1 p2 p3 f0 f1 f2 f3 X2
 obtain ⟨wy,hwy⟩:∃ wy,wy=wz.setCell ⟨gx,ka * 2+1,none⟩ (.int .i64 ((y - u) % 8)):=⟨_,rfl⟩
 rw [<- hwy] at SR SB SO OT XT ⊢
 have HSY:Hid (wy.heap.size=wz.heap.size):=zH (by rw [hwy];simp [World.setCell])
 clear hwy
 have hgy:gp < wy.heap.size:=XT.out.lt
 go_loopg [7,69] LL (fun r v i wr=>∃ (k q:Nat) (A0:Option Addr) (c0:Nat),k+r=LL/\i=.int .i64 k/\v=.slice A0 q c0/\q<=k/\(nz (b.take k)).length=q/\wr.ownsRow wy.heap.size 128 2 (.slice A0 q c0) q (cellsP (nz (b.take k)))/\Below wy.heap.size wy wr)
 case atStart=>exact ⟨0,0,_,_,by omega,rfl,rfl,zR,by simp [nz],by rw [<- HSY.out];simpa [nz,cellsP] using ownsRow_drew (World.ownsRow_lit wy #[] 0 (size:=2) (e:=128) zR (by simp [maxLen]) rfl),((zW).alloc zR _).drew⟩
 case round =>
  obtain ⟨k,q,A0,c0,hk,rfl,rfl,hqk,hq,ho,hbw⟩:=hrel
  have HQ:=zH hq
  have HO:=zH ho
  have HB:=zH hbw
  have hbs:=hbw.size
  clear hq ho hbw
  by_cases hlt:k < LL
  ·obtain ⟨bb,off,u',v,hA,hBb,hd,d0,d1⟩:=(SR.out.below HB.out).at_ hlt
   injection hA with hA
   injection hA with hA1 hA2 _
   subst hA1 hA2
   rw [Nat.zero_add] at d0 d1
   have HD:=zH hd
   have HN:Hid (nz (b.take (k+1))=nz (b.take k)++(if (v == 0)=true then [] else [(u',v)])):=zH (by rw [take_snoc HD.out,nz_snoc])
   have hkI:(k:Int) < (LL:Int):=by omega
   have hk0:(0:Int)<=(k:Int):=by omega
   clear hd
   by_cases hv:v=0
   ·subst hv
    go_wp2_with fail
    go_roundg (gk - 1)
    case measure=>omega
    case rel=>exact ⟨k+1,q,A0,c0,by omega,by go_num,rfl,by omega,by rw [HN.out];simpa using HQ.out,by rw [HN.out];simpa using World.ownsRow.alloc HO.out _,HB.out.alloc hbs _⟩
   ·have hv1:(v == 0)=false:=by simpa using hv
    have HV:=zH hv1
    have hv2:(v != 0)=true:=by simp [bne,hv1]
    have DA:=zH ((HO.out.alloc (.cells #[.int .i64 u',.int .i64 v] 128)).alloc (.cells #[.int .i64 u',.int .i64 v] 128))
    go_wp2_with (at_builtin;refine wpList_app rfl (.tmp 76) (.tmp 78) 85 rfl Tryz.underlying85 infoPhaseTerm rfl (by decide) rfl DA.out rfl (rd_l2 _ wr 128 _ _) (by simp [Value.oneCell']) (by omega) (by decide) (by simp<;>omega) ?_;intro A5 c5 w5 o5 g5)
    go_roundg (gk - 1)
    case measure=>omega
    case rel =>
     refine ⟨k+1,q+1,A5,c5,by omega,by go_num,rfl,by omega,by rw [HN.out,HV.out];simp [HQ.out],?_,below_grown ((HB.out.alloc hbs _).alloc (by simp;omega) _) (by simp;omega) DA.out zR g5⟩
     rw [HN.out,HV.out]
     rw [show nz (b.take k)++(if false=true then [] else [(u',v)])=nz (b.take k)++[(u',v)] from rfl,cellsP_append]
     exact o5
  ·have hkL:k=LL:=by omega
   have XE:=zH (XT.out.below HB.out)
   obtain ⟨p0,p1,p2,p3,f0,f1,f2,f3⟩:=XE.out.four
   go_wp2_with fail
   have e:nz (b.take k)=R:=by rw [List.take_of_length_le (by have:=HBL.out;omega),HRB.out]
   have HOO:=HO.out
   have HQQ:=HQ.out
   rw [e] at HOO HQQ
   subst HQQ
   have hbz:base<=wy.heap.size:=by have:=SB.out.size;omega
   have e1:some gp ≠ (Value.slice A0 R.length c0).ownBlock:=by intro e;have:=(HOO.lt gp e.symm).1;omega
   go_end0
   refine ⟨rfl,⟨A0,c0,B,d,by rw [HNO.out];exact XE.out.s2 _,own_set_ne (ownsRow_base HOO hbz) e1 _,by rw [HNO.out];exact own_set_ne (ownsRow_below OT.out HB.out) (own_bx_ne (ownsRow_below OT.out HB.out) XE.out (by decide)) _⟩,(SB.out.trans (HB.out.mono hbz)).setCell (show base<=gp from hbg) _⟩
theorem i_rotate (gp base:Nat) (N H:Int) (t o:List (Int × Int)) (p:Int × Int) (u:Int) (w:World) (hp:PAt w gp base N H t o) (hb:base<=w.heap.size) (hbg:base<=gp) (hn:t.length<=274877906944) :
  Calls Tryz.prog 125 #[.pointer (some ⟨gp,0,none⟩),.agg #[.int .i64 p.1,.int .i64 p.2],.int .i64 u] w fun e w'=>e=.returned (.tuple #[])/\PAt w' gp base N (rotH H p u) (rotT t p u) o/\Below base w w':=by
 obtain ⟨m,f⟩:=p
 unfold rotH rotT
 cases hf:(f == 0)
 ·rw [if_neg (by simp),if_neg (by simp)]
  exact i_rotate1 gp base N H t o m f u w hp hb hbg hn hf
 ·obtain rfl:f=0:=by simpa using hf
  rw [if_pos (by rfl),if_pos (by rfl)]
  exact i_rotate0 gp base N H t o m u w hp hb hbg hn
section
variable {α:Type} {cs:List α->List Value} {w w':World} {sz n:Nat} {A:Option Addr}
def RdSS (cs:List α->List Value) (w:World) (sz:Nat) (A:Option Addr) (n:Nat) (l:List (List α)):Prop :=
 l.length=n/\∃ vs:List Value,Rd w 1 A n vs/\∀ (j:Nat) (x:List α),l[j]? = some x->∃ B c,vs[j]? = some (Value.slice B x.length c)/\x.length<=c/\Rd w sz B x.length (cs x)
theorem RdSS.below {l:List (List α)} (h:RdSS cs w sz A n l) (hb:Below w.heap.size w w'):RdSS cs w' sz A n l:=by
 obtain ⟨h1,vs,h2,h3⟩:=h
 refine ⟨h1,vs,h2.below hb,fun j x hx=>?_⟩
 obtain ⟨B,c,a1,a2,a3⟩:=h3 j x hx
 exact ⟨B,c,a1,a2,a3.below hb⟩
theorem RdSS.alloc {l:List (List α)} (h:RdSS cs w sz A n l) (o:Obj):RdSS cs (w.alloc o) sz A n l:=h.below ((zW).alloc zR _)
theorem RdSS.drew {l:List (List α)} (h:RdSS cs w sz A n l):RdSS cs w.drew sz A n l:=h
theorem RdSS.at_ {l:List (List α)} (h:RdSS cs w sz A n l) {k:Nat} (hk:k < n):∃ (b off:Nat) (x:List α) (B:Option Addr) (c:Nat),A=some ⟨b,off,none⟩/\b < w.heap.size/\l.drop k=x :: l.drop (k+1) ∧
  w.cell? ⟨b,off+k,none⟩=some (Value.slice B x.length c)/\x.length<=c/\Rd w sz B x.length (cs x):=by
 obtain ⟨hl,vs,hr,hi⟩:=h
 obtain ⟨b,off,e,hb,hc⟩:=hr.2 (by omega)
 have hd:=drop_cons (l:=l) (k:=k) (by omega)
 obtain ⟨B,c,a1,a2,a3⟩:=hi k l[k] (List.getElem?_eq_getElem (by omega))
 exact ⟨b,off,l[k],B,c,e,hb,hd,hc _ _ a1,a2,a3⟩
def OwnSS (cs:List α->List Value) (w:World) (base:Nat) (eo ei sz:Nat) (v:Value) (l:List (List α)):Prop :=
 ∃ vs:List Value,w.ownsRow base eo 1 v l.length vs ∧
  (∀ (j:Nat) (x:List α),l[j]? = some x->∃ B c,vs[j]? = some (Value.slice B x.length c)/\w.ownsRow base ei sz (.slice B x.length c) x.length (cs x)) ∧
  (∀ (i j:Nat) (u u':Value),i ≠ j->vs[i]? = some u->vs[j]? = some u'->u.ownBlock=none ∨ u.ownBlock ≠ u'.ownBlock)
theorem OwnSS.rd {base eo ei c:Nat} {l:List (List α)} (h:OwnSS cs w base eo ei sz (.slice A n c) l) (hn:l.length=n):RdSS cs w sz A n l:=by
 obtain ⟨vs,h1,h2,h3⟩:=h
 subst hn
 refine ⟨rfl,vs,Rd.own h1,fun j x hx=>?_⟩
 obtain ⟨B,c,a1,a2⟩:=h2 j x hx
 exact ⟨B,c,a1,ownsRow_cap a2,Rd.own a2⟩
theorem OwnSS.below {base eo ei:Nat} {v:Value} {l:List (List α)} (h:OwnSS cs w base eo ei sz v l) (hb:Below w.heap.size w w'):OwnSS cs w' base eo ei sz v l:=by
 obtain ⟨vs,h1,h2,h3⟩:=h
 refine ⟨vs,ownsRow_below h1 hb,fun j x hx=>?_,h3⟩
 obtain ⟨B,c,a1,a2⟩:=h2 j x hx
 exact ⟨B,c,a1,ownsRow_below a2 hb⟩
theorem OwnSS.alloc {base eo ei:Nat} {v:Value} {l:List (List α)} (h:OwnSS cs w base eo ei sz v l) (o:Obj):OwnSS cs (w.alloc o) base eo ei sz v l:=h.below ((zW).alloc zR _)
theorem OwnSS.drew {base eo ei:Nat} {v:Value} {l:List (List α)} (h:OwnSS cs w base eo ei sz v l):OwnSS cs w.drew base eo ei sz v l:=h
theorem OwnSS.base_ {base base' eo ei:Nat} {v:Value} {l:List (List α)} (h:OwnSS cs w base eo ei sz v l) (hb:base'<=base):OwnSS cs w base' eo ei sz v l:=by
 obtain ⟨vs,h1,h2,h3⟩:=h
 refine ⟨vs,ownsRow_base h1 hb,fun j x hx=>?_,h3⟩
 obtain ⟨B,c,a1,a2⟩:=h2 j x hx
 exact ⟨B,c,a1,ownsRow_base a2 hb⟩
theorem OwnSS.cap {base eo ei c:Nat} {l:List (List α)} (h:OwnSS cs w base eo ei sz (.slice A n c) l) (hn:l.length=n):n<=c:=by
 obtain ⟨vs,h1,_⟩:=h
 subst hn
 exact ownsRow_cap h1
theorem OwnSS.lit0 (w:World) {base:Nat} (hb:base<=w.heap.size) (eo ei sz:Nat) (cs:List α->List Value):OwnSS cs (w.alloc (.cells #[] eo)) base eo ei sz (.slice (some ⟨w.heap.size,0,none⟩) 0 0) [] :=
 ⟨[],World.ownsRow_lit w #[] 0 hb (by simp [maxLen]) rfl,fun j x hx=>by simp at hx,fun i j u u' _ hu=>by simp at hu⟩
theorem own_lt {w:World} {base:Nat} {e:TypeId} {sz n:Nat} {v:Value} {xs:List Value} (h:w.ownsRow base e sz v n xs) {B:Nat} (hB:w.heap.size<=B):∀ k,v.ownBlock=some k->k < B:=fun k hk=>by have:=(h.lt k hk).2;omega
theorem OwnSS.app {base B eo ei:Nat} {v v'':Value} {l l':List (List α)} {vs':List Value} {w0 w1 w2:World} (hne:eo ≠ ei)
  (h:OwnSS cs w0 base eo ei sz v l) (hB:w0.heap.size<=B) (hb:base<=B) (h01:Below w0.heap.size w0 w1)
  (h2:∀ (j:Nat) (x:List α),l'[j]? = some x->∃ D c,vs'[j]? = some (Value.slice D x.length c)/\w1.ownsRow B ei sz (.slice D x.length c) x.length (cs x))
  (h3:∀ (i j:Nat) (u u':Value),i ≠ j->vs'[i]? = some u->vs'[j]? = some u'->u.ownBlock=none ∨ u.ownBlock ≠ u'.ownBlock)
  (hlen:vs'.length=l'.length)
  (hg:w1.grownBy w2 v.ownBlock)
  (ho:∀ vs,w1.ownsRow base eo 1 v l.length vs->w2.ownsRow base eo 1 v'' (l.length+l'.length) (vs++vs')):OwnSS cs w2 base eo ei sz v'' (l++l'):=by
 obtain ⟨vs,a1,a2,a3⟩:=h
 have b1:=ownsRow_below a1 h01
 have hlv:vs.length=l.length:=by simpa using a1.1
 have key:∀ (j:Nat) (x:List α) (D:Option Addr) (c:Nat),vs[j]? = some (Value.slice D x.length c)->w0.ownsRow base ei sz (.slice D x.length c) x.length (cs x)->w2.ownsRow base ei sz (.slice D x.length c) x.length (cs x):=fun j x D c _ ho' =>
  (ownsRow_below ho' h01).kept hg (by
   rcases (ownsRow_below ho' h01).2 with ⟨e1,_⟩ | ⟨g,cap,cur,e1,_,hh,_⟩
   ·rw [e1];exact .inl rfl
   ·rcases b1.2 with ⟨e2,_⟩ | ⟨g',cap',cur',e2,_,hh',_⟩
    ·rw [e2,e1];exact .inr (by simp [Value.ownBlock])
    ·rw [e2,e1]
     refine .inr fun he=>?_
     have:g=g':=by simpa [Value.ownBlock] using he
     subst this
     rw [hh] at hh'
     injection hh' with hh'
     injection hh' with _ ht
     exact hne ht.symm)
 have key':∀ (x:List α) (D:Option Addr) (c:Nat),w1.ownsRow B ei sz (.slice D x.length c) x.length (cs x)->w2.ownsRow base ei sz (.slice D x.length c) x.length (cs x):=fun x D c ho' =>
  ownsRow_base (ho'.kept hg (by
   cases hv:(Value.slice D x.length c).ownBlock with
   |none=>exact .inl rfl
   |some k =>
    refine .inr fun he=>?_
    have a:=(ho'.lt k hv).1
    have b:=(a1.lt k he.symm).2
    omega)) hb
 refine ⟨vs++vs',by rw [List.length_append];exact ho vs b1,fun j x hx=>?_,fun i j u u' hij hu hu'=>?_⟩
 ·rcases Nat.lt_or_ge j l.length with hj | hj
  ·rw [List.getElem?_append_left hj] at hx
   obtain ⟨D,c,c1,c2⟩:=a2 j x hx
   exact ⟨D,c,by rw [List.getElem?_append_left (by omega)];exact c1,key j x D c c1 c2⟩
  ·rw [List.getElem?_append_right hj] at hx
   obtain ⟨D,c,c1,c2⟩:=h2 _ x hx
   exact ⟨D,c,by rw [List.getElem?_append_right (by omega),hlv];exact c1,key' x D c c2⟩
 ·have old:∀ (i:Nat) (u:Value),i < l.length->vs[i]? = some u->∀ k,u.ownBlock=some k->k < B:=fun i u hi hu k hk=>by
   obtain ⟨D,c,c1,c2⟩:=a2 i l[i] (List.getElem?_eq_getElem hi)
   rw [hu] at c1
   injection c1 with c1
   subst c1
   exact own_lt c2 hB k hk
  have new:∀ (i:Nat) (u:Value),vs'[i]? = some u->∀ k,u.ownBlock=some k->B<=k:=fun i u hu k hk=>by
   have hi:i < l'.length:=by
    have:=(List.getElem?_eq_some_iff.1 hu).1
    omega
   obtain ⟨D,c,c1,c2⟩:=h2 i l'[i] (List.getElem?_eq_getElem hi)
   rw [hu] at c1
   injection c1 with c1
   subst c1
   exact (c2.lt k hk).1
  rcases Nat.lt_or_ge i l.length with hi | hi
  ·rw [List.getElem?_append_left (by omega)] at hu
   rcases Nat.lt_or_ge j l.length with hj | hj
   ·rw [List.getElem?_append_left (by omega)] at hu'
    exact a3 i j u u' hij hu hu'
   ·rw [List.getElem?_append_right (by omega)] at hu'
    cases h:u.ownBlock with
    |none=>exact .inl rfl
    |some k =>
     refine .inr fun he=>?_
     have a:=old i u hi hu k h
     have b:=new _ u' hu' k he.symm
     omega
  ·rw [List.getElem?_append_right (by omega)] at hu
   rcases Nat.lt_or_ge j l.length with hj | hj
   ·rw [List.getElem?_append_left (by omega)] at hu'
    cases h:u.ownBlock with
    |none=>exact .inl rfl
    |some k =>
     refine .inr fun he=>?_
     have a:=new _ u hu k h
     have b:=old j u' hj hu' k he.symm
     omega
   ·rw [List.getElem?_append_right (by omega)] at hu'
    exact h3 _ _ u u' (by omega) hu hu'
theorem OwnSS.turn {base eo ei:Nat} {v:Value} {l:List (List α)} {k:Nat} {y:List α} (hne:eo ≠ ei) (h:OwnSS cs w base eo ei sz v l) {x:List α} (hk:l[k]? = some x) (hy:y.length=x.length)
  {D:Option Addr} {c:Nat} (hat:∀ vs,w.ownsRow base eo 1 v l.length vs->vs[k]? = some (Value.slice D x.length c))
  (hg:w.grownBy w' (Value.slice D x.length c).ownBlock) (ho:w'.ownsRow base ei sz (.slice D x.length c) x.length (cs y)):OwnSS cs w' base eo ei sz v (l.set k y):=by
 obtain ⟨vs,a1,a2,a3⟩:=h
 have hkv:=hat vs a1
 refine ⟨vs,?_,fun j z hz=>?_,a3⟩
 ·rw [List.length_set]
  refine a1.kept hg ?_
  obtain ⟨D',c',e1,e2⟩:=a2 k x hk
  rw [hkv] at e1
  injection e1 with e1
  rcases a1.2 with ⟨e3,_⟩ | ⟨g,cap,cur,e3,_,hh,_⟩
  ·rw [e3];exact .inl rfl
  ·rw [<- e1] at e2
   rcases e2.2 with ⟨e4,_⟩ | ⟨g',cap',cur',e4,_,hh',_⟩
   ·rw [e3,e4];exact .inr (by simp [Value.ownBlock])
   ·rw [e3,e4]
    refine .inr fun he=>?_
    have:g=g':=by simpa [Value.ownBlock] using he
    subst this
    rw [hh] at hh'
    injection hh' with hh'
    injection hh' with _ ht
    exact hne ht
 ·by_cases hjk:k=j
  ·subst hjk
   rw [List.getElem?_set_self (by have:=(List.getElem?_eq_some_iff.1 hk).1;omega)] at hz
   injection hz with hz
   subst hz
   refine ⟨D,c,?_,?_⟩
   ·rw [hy];exact hkv
   ·rw [hy];exact ho
  ·rw [List.getElem?_set_ne hjk] at hz
   obtain ⟨D',c',e1,e2⟩:=a2 j z hz
   exact ⟨D',c',e1,e2.kept hg (a3 j k _ _ (fun e=>hjk e.symm) e1 hkv)⟩
theorem OwnSS.at_ {base eo ei k:Nat} {v:Value} {l:List (List α)} (hne:eo ≠ ei) (h:OwnSS cs w base eo ei sz v l) (hk:k < l.length):∃ (g cap:Nat) (x:List α) (D:Option Addr) (c:Nat),v=.slice (some ⟨g,0,none⟩) l.length cap/\l.drop k=x :: l.drop (k+1) ∧
  w.cell? ⟨g,k,none⟩=some (Value.slice D x.length c)/\w.frozen? ⟨g,k,none⟩=false/\w.ownsRow base ei sz (.slice D x.length c) x.length (cs x) ∧
  (∀ (w':World) (y:List α),y.length=x.length->w.grownBy w' (Value.slice D x.length c).ownBlock->w'.ownsRow base ei sz (.slice D x.length c) x.length (cs y)->OwnSS cs w' base eo ei sz v (l.set k y)):=by
 have h0:=h
 obtain ⟨vs,a1,a2,a3⟩:=h
 obtain ⟨D,c,e1,e2⟩:=a2 k l[k] (List.getElem?_eq_getElem hk)
 obtain ⟨g,cap,hv⟩:∃ g cap,v=.slice (some ⟨g,0,none⟩) l.length cap:=by
  rcases a1.2 with ⟨_,h0⟩ | ⟨g,cap,cur,hv,_⟩
  ·omega
  ·exact ⟨g,cap,hv⟩
 subst hv
 refine ⟨g,cap,l[k],D,c,rfl,drop_cons hk,(a1.cellAt k (by omega)).trans e1,a1.frozenAt k,e2,fun w' y hy hg ho=>h0.turn hne (List.getElem?_eq_getElem hk) hy (fun vs' b1=>?_) hg ho⟩
 rw [<- b1.cellAt k (by omega),a1.cellAt k (by omega),e1]
end
end Go.Proofs.YtmenmibfkojnoaaGreat
