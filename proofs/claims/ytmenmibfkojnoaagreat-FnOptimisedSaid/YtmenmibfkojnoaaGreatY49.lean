/- Contract of ShortenRuns (spec). -/
import Derived.Test.YtmenmibfkojnoaaGreatY48
set_option maxHeartbeats 16000000
set_option maxRecDepth 100000
namespace Go.Proofs.YtmenmibfkojnoaaGreat
open Go.RowKit
set_option linter.unusedVariables false
def tz (n:Nat):Bool:=(bC n).all fun g=>(!decide (aA g.k=1) || (decide (g=⟨g.k,g.a,0,0⟩) && (decide (0<=g.a) && (decide (g.a < 4) && (decide (1<=g.k) && decide (g.k<=8)))))) && (ik g.k g.a g.b g.c).all fun x=>decide (0<=x) && decide (x < 4)
theorem OZ:tz 1=true:=by decide +kernel
theorem Pa:tz 2=true:=by decide +kernel
theorem Pb:tz 3=true:=by decide +kernel
theorem Pc:tz 4=true:=by decide +kernel
theorem tA {g:Gt} {n:Int} (h:fJ g.k g.a g.b g.c n=true):(aA g.k=1->∃ q:Nat,q < 4/\g=⟨g.k,(q:Nat),0,0⟩/\1<=g.k/\g.k<=8)/\∀ x ∈ ik g.k g.a g.b g.c,0<=x/\x < 4:=by
 have hn:1<=n/\n<=4:=by
  unfold fJ at h;simp only [Bool.and_eq_true] at h;exact inB_iff.1 h.1
 obtain ⟨N,rfl⟩:∃ N:Nat,n=(N:Nat):=⟨n.toNat,zO⟩;have hm:g ∈ bC N:=cS (show bF N g=true from h);have hc:tz N=true:=by
  obtain rfl | rfl | rfl | rfl:N=1\/N=2\/N=3\/N=4:=zO
  ·exact OZ
  ·exact Pa
  ·exact Pb
  ·exact Pc
 have h2:=List.all_eq_true.1 hc g hm;simp only [Bool.and_eq_true,Bool.or_eq_true,Bool.not_eq_true',decide_eq_false_iff_not,decide_eq_true_eq,List.all_eq_true] at h2;obtain ⟨h3,h4⟩:=h2;refine ⟨fun ha=>?_,h4⟩;rcases h3 with h3 | ⟨e,a1,a2,k1,k2⟩
 ·exact absurd ha h3
 ·exact ⟨g.a.toNat,zO,by rw [Int.toNat_of_nonneg a1];exact e,k1,k2⟩
theorem Eu (g:Gt):tV g=(ik g.k g.a g.b g.c).map Int.toNat:=rfl
theorem tB {l:List Gt} {k:Nat} {g:Gt} {s S:iw} (hg:l[k]? = some g) (h:gG (l.drop k) s=S):gG (l.drop (k+1)) (qu s g)=S:=by
 obtain ⟨hk,e⟩:=List.getElem?_eq_some_iff.1 hg;rw [ax hk,e] at h;exact h
theorem uW {l:List Gt} {k:Nat} {s S:iw} (hk:l.length<=k) (h:gG (l.drop k) s=S):s=S:=by
 rw [List.drop_eq_nil_of_le hk] at h;exact h
theorem jG {qs:List Nat} {j q:Nat} {s S:iw} (hq:qs[j]? = some q) (h:ct s (qs.drop j)=S):ct (eV s q) (qs.drop (j+1))=S:=by
 obtain ⟨hk,e⟩:=List.getElem?_eq_some_iff.1 hq;rw [ax hk,e] at h;exact h
theorem kM {qs:List Nat} {j:Nat} {s S:iw} (hk:qs.length<=j) (h:ct s (qs.drop j)=S):s=S:=by
 rw [List.drop_eq_nil_of_le hk] at h;exact h
theorem Lz {s:iw} {g:Gt} {q:Nat} (ha:aA g.k=1) (hg:g.a=(q:Nat)):qu s g=(s.1,s.2.set q (s.2.getD q []++[g])):=by
 unfold qu;rw [if_pos ha,hg,Int.toNat_natCast]
theorem LA {s E:iw} {g:Gt} (ha:¬ aA g.k=1) (hE:ct s (tV g)=E):qu s g=(E.1++[g],E.2):=by
 unfold qu;rw [if_neg ha,hE]
def jP (l:List Gt) (n:Int):Bool:=l.all fun g=>fJ g.k g.a g.b g.c n
theorem zX {l:List Gt} {n:Int} {g:Gt} (hg:g ∈ l) (h:fJ g.k g.a g.b g.c n=false):aO l n=l:=by
 unfold aO;rw [if_neg];intro h2;rw [List.all_eq_true.1 h2 g hg] at h;cases h
theorem nv {l:List Gt} {n:Int} {k:Nat} {g:Gt} (hk:l[k]? = some g) (h:fJ g.k g.a g.b g.c n=true) (h2:jP (l.take k) n=true):jP (l.take (k+1)) n=true:=by
 unfold jP at h2 ⊢;rw [db hk,List.all_append,h2];simp [h]
theorem qh {l:List Gt} {n:Int} (h:jP l n=true):aO l n=(ct (gG l Al) [0,1,2,3]).1:=by
 unfold aO;exact if_pos h
theorem VH:madeCells (Value.slice none 0 0).cells (4 * 1) = #[.slice none 0 0,.slice none 0 0,.slice none 0 0,.slice none 0 0]:=by
 unfold madeCells;rw [show Array.range (4 * 1) = #[0,1,2,3] from by decide];simp [Value.cells]
theorem uX (g:Gt):g.cells=af [g]:=by simp [af]
theorem TJ {w:World} {b off n j:Nat} {zs:List Int} {x:Int} (h:RdI w (some ⟨b,off,none⟩) n zs) (hx:zs[j]? = some x):w.cell? ⟨b,off+j,none⟩=some (.int .i64 x):=by
 have hj:=(List.getElem?_eq_some_iff.1 hx).1;obtain ⟨b',off',e,_,hc⟩:=h.2.2 (by rw [<- h.1];omega);injection e with e;injection e with e1 e2;subst e1 e2
 refine hc j _ ?_;unfold aB;rw [List.getElem?_map,hx];rfl
theorem SR.keepP {R P T:Nat} {s:iw} {vo:Value} {wx w5:World} (h:SR R P T s vo wx) (hT:39 ≠ T) {v:Value} {n:Nat} {xs:List Value} (ho:wx.ownsRow R 39 4 v n xs) (hg:wx.grownBy w5 v.ownBlock) (q:Nat):w5.cell? ⟨P,q,none⟩=wx.cell? ⟨P,q,none⟩/\w5.frozen? ⟨P,q,none⟩=false:=by
 obtain ⟨h1,vs,h2,h3,h4⟩:=h;have h5:=az ho hg h3 hT;exact ⟨(h5.cell q).trans (h3.cell q).symm,h5.free q⟩
theorem SR.pushOne {R P T:Nat} {s:iw} {vo:Value} {wx w5:World} (h:SR R P T s vo wx) (hT:39 ≠ T) {q ln c c':Nat} {A A':Option Addr} {g:Gt} (hq:q < 4) (hln:(s.2.getD q []).length=ln) (hv:wx.cell? ⟨P,q,none⟩=some (.slice A ln c)) (hg:wx.grownBy w5 (Value.slice A ln c).ownBlock)
  (ho:w5.ownsRow R 39 4 (.slice A' (ln+1) c') (ln+1) (af (s.2.getD q [])++g.cells))
  (hat:(Value.slice A' (ln+1) c').ownBlock=(Value.slice A ln c).ownBlock\/(Value.slice A' (ln+1) c').ownBlock=some wx.heap.size) :
  SR R P T (s.1,s.2.set q (s.2.getD q []++[g])) vo (w5.setCell ⟨P,q,none⟩ (.slice A' (ln+1) c')):=by
 subst hln;exact h.pushRun hT (news:=[g]) hq rfl hv hg (by rw [show af [g]=g.cells by simp [af]];exact ho) hat
theorem xD {p:Prop} (h:p:=by simp [Value.ownBlock]):p:=h
theorem SR.start {w wx:World} {R P T:Nat} {A:Option Addr} {c:Nat} (hP:Bx wx P T #[.slice none 0 0,.slice none 0 0,.slice none 0 0,.slice none 0 0]) (ho:wx.ownsRow R 39 4 (.slice A 0 c) 0 (af [])):SR R P T Al (.slice A 0 c) wx:=by
 refine ⟨rfl,[.slice none 0 0,.slice none 0 0,.slice none 0 0,.slice none 0 0],rfl,hP,rfl,fun i v l hv hl=>?_,fun i j u v hu hv hij=>?_⟩
 ·match i,hv,hl with
  |0,hv,hl=>injection hv with hv;injection hl with hl;subst hv hl;exact ⟨none,0,rfl,World.ownsRow_nil _ _ _ _⟩
  |1,hv,hl=>injection hv with hv;injection hl with hl;subst hv hl;exact ⟨none,0,rfl,World.ownsRow_nil _ _ _ _⟩
  |2,hv,hl=>injection hv with hv;injection hl with hl;subst hv hl;exact ⟨none,0,rfl,World.ownsRow_nil _ _ _ _⟩
  |3,hv,hl=>injection hv with hv;injection hl with hl;subst hv hl;exact ⟨none,0,rfl,World.ownsRow_nil _ _ _ _⟩
  |4,hv,hl=>injection hv with hv;injection hl with hl;subst hv hl;exact ⟨A,c,rfl,ho⟩
  |i+5,hv,hl=>simp at hv
 ·match i,hu with
  |0,hu=>injection hu with hu;subst hu;exact .inl rfl
  |1,hu=>injection hu with hu;subst hu;exact .inl rfl
  |2,hu=>injection hu with hu;subst hu;exact .inl rfl
  |3,hu=>injection hu with hu;subst hu;exact .inl rfl
  |4,hu =>
   match j,hv with
   |0,hv=>injection hv with hv;subst hv;cases h:u.ownBlock with | none=>exact .inl rfl | some b=>exact .inr xD
   |1,hv=>injection hv with hv;subst hv;cases h:u.ownBlock with | none=>exact .inl rfl | some b=>exact .inr xD
   |2,hv=>injection hv with hv;subst hv;cases h:u.ownBlock with | none=>exact .inl rfl | some b=>exact .inr xD
   |3,hv=>injection hv with hv;subst hv;cases h:u.ownBlock with | none=>exact .inl rfl | some b=>exact .inr xD
   |4,hv=>exact absurd rfl hij
   |j+5,hv=>simp at hv
  |i+5,hu=>simp at hu
theorem Gc (n:Int) (m c:Nat) (A:Option Addr) (l:List Gt) (w:World) (hr:RdG w A m l) (hm:m<=1073741824) :
  Calls Tryz.prog 30 #[.slice A m c,n] w (jl 39 4 (af (aO l n)) (aO l n).length w):=by
 have hz4:(Value.agg #[(0:Int),(0:Int),(0:Int),(0:Int)]).cells.size=4:=rfl;have hmk:∀ w:World,(Instr.makeSlice 42 (.int .i64 4) (.int .i64 4)).run Tryz.prog w=.ok (.slice (some ⟨w,0,none⟩) 4 4) (w.alloc (.cells #[.slice none 0 0,.slice none 0 0,.slice none 0 0,.slice none 0 0] 24)):=fun w=>(iF (P:=Tryz.prog) Tryz.underlying42 tg 4 zO zO w).trans (by rw [VH])
 have HW:=zH hr;have HN:=zH hr.1;obtain ⟨S,hS⟩:∃ S,gG l Al=S:=⟨_,rfl⟩;have HS0:=zH (show gG (l.drop 0) Al=S from hS);have HSS:=zH hS;clear hr hS;have SR0:=zH (show SR w.heap.size (w.heap.size+1) 24 Al (.slice (some ⟨w,0,none⟩) 0 0) ((w.alloc (.cells #[] 39)).alloc (.cells #[.slice none 0 0,.slice none 0 0,.slice none 0 0,.slice none 0 0] 24)) from SR.start (w:=w) (Bx.new' zI) ((World.ownsRow_lit w #[] 0 zR zM rfl).alloc _));have B0:=zH (show Below w w ((w.alloc (.cells #[] 39)).alloc (.cells #[.slice none 0 0,.slice none 0 0,.slice none 0 0,.slice none 0 0] 24)) from ((zW).alloc zR _).alloc zI _);go_enter Tryz.func30,Tryz.ntmps30;go_wp2_with fail;clear hmk;go_loopg [5,7] m (fun g v5 i wr=>∃ (k:Nat) (s:iw),k+g=m/\i=.int .i64 (k:Nat)/\gG (l.drop k) s=S/\fH s/\lf s<=100 * k/\jP (l.take k) n=true/\SR w.heap.size (w.heap.size+1) 24 s v5 wr/\Below w w wr)
 case atStart=>exact ⟨0,Al,zO,rfl,HS0.out,s0R_ok.1,Nat.le_of_eq s0R_ok.2,rfl,SR0.out,B0.out⟩
 case round =>
  clear SR0 B0 HS0;obtain ⟨k,s,hk,rfl,hS,hok,hwt,hal,hSR,hB⟩:=hrel;have HS:=zH hS;have HOK:=zH hok;have HAL:=zH hal;have HSR:=zH hSR;have HB:=zH hB;have HWT:=zH hwt;have lw:=hB.size;obtain ⟨A0,c0,rfl,o0⟩:=hSR.out;clear hS hok hal hSR hB hwt o0;by_cases hlt:k < m
  ·obtain ⟨b,off,g,rfl,hbl,hd,d0,d1,d2,d3⟩:=(HW.below HB.out).at_ hlt;have hgk:l[k]? = some g:=by
    have hlk:k < l.length:=by rw [HN.out];exact hlt
    rw [ax hlk] at hd;injection hd with hd _;rw [List.getElem?_eq_getElem hlk,hd]
   have HGK:=zH hgk;have kn:(k:Int) < (m:Int):=zO;have GA:=zH (Bx.new wr 39 #[g.k,g.a,g.b,g.c]);have SA:=zH (HSR.alloc g);have BA:=zH (HB.alloc lw g);obtain ⟨g0,g1',g2,g3,_⟩:=GA.four;clear hd hgk;go_wp2_with fail;refine (aY _ _ _ _ _ _).mono ?_;rintro e w1 ⟨rfl,b1⟩;have G1:=zH (GA.below b1);have BR1:=zH (((Below.refl wr wr).alloc zR g).trans (b1.mono zI));have S1:=zH (SA.below b1);have B1:=zH (BA.trans (b1.mono BA.size));have l1:=B1.size;clear b1 GA SA BA g0 g1' g2 g3 d0 d1 d2 d3;cases hv:fJ g.k g.a g.b g.c n
   ·have HE:=zH (zX (List.mem_of_getElem? HGK) hv);clear hv
    go_wp2_with (at_builtin;refine dN rfl (.tmp 28) (.tmp 29) 24 rfl Tryz.underlying24 ak hz4 (base:=w1.heap.size) rfl (Bx.new' zI) zR rfl ((HW.below B1.out).2.alloc _) zO zD ?_;intro A4 c4 w4 o4 b4)
    go_ret;rw [HE.out];exact ⟨A4,c4,by rw [HN.out];rfl,by rw [HN.out];exact ae o4 l1,B1.trans ((((Below.refl w1 w1).alloc zR _).trans (b4.mono zI)).mono l1)⟩
   ·have HV:=zH hv;have HAL2:=zH (nv HGK hv HAL);have HSH:=zH (tA hv);have NX:=zH (tB HGK HS);obtain ⟨g0,g1',g2,g3,_⟩:=G1.four;clear hv;go_wp2_with fail;refine (bX _ _).mono ?_;rintro e w2 ⟨rfl,rfl⟩;by_cases ha:aA g.k=1
    ·obtain ⟨q,hq,hg,hk8⟩:=HSH.out.1 ha;obtain ⟨kk,rfl⟩:∃ kk,g=⟨kk,(q:Nat),0,0⟩:=⟨_,hg⟩;have HRG:=zH (Lz (s:=s) (q:=q) ha rfl);have HOK2:=zH (pE (s:=s) (g:=⟨kk,(q:Nat),0,0⟩) HOK hq ⟨rfl,hk8⟩);rw [HRG.out] at NX;obtain ⟨Aq,cq,y0w,_,oqw⟩:=HSR.run hq;have hfarq:some wr.heap.size ≠ (Value.slice Aq (s.2.getD q []).length cq).ownBlock:=fun e=>by have:=(oqw.lt _ e.symm).2;omega
     have y0:=(BR1.cell (p:=⟨w.heap.size+1,q,none⟩) HSR.lt).trans y0w;have oq:=ab oqw BR1.out;have hln:100 * (s.2.getD q []).length<=100 * k:=Nat.le_trans (tx HOK.out.1 hq) HWT.out;have OQ:=zH oq;obtain ⟨ln,hlnn⟩:∃ ln,(s.2.getD q []).length=ln:=⟨_,rfl⟩;have HLN:=zH hlnn;have qI:(q:Int) < 4:=zO;have q0:(0:Int)<=(q:Int):=zO;have ha1:(aA kk == 1)=true:=by simpa using ha
     rw [hlnn] at y0 hln hfarq;have Y0:=zH y0;have OQ2:=zH (show w1.ownsRow w 39 4 (.slice Aq ln cq) ln (af (s.2.getD q [])) by rw [<- hlnn];exact oq);clear hg hk8 ha oq hlnn y0w oqw;have SG:=zH (S1.alloc (.cells #[kk,q,(0:Int),(0:Int)] 39)).drew;have YG:=zH (show (w1.alloc (.cells #[kk,q,(0:Int),(0:Int)] 39)).drew.cell? ⟨w.heap.size+1,q,none⟩=some (.slice Aq ln cq) from (((Below.refl w1 w1).alloc zR _).drew.cell (p:=⟨w.heap.size+1,q,none⟩) S1.lt).trans Y0.out);have OG:=zH (aq (OQ2.alloc (.cells #[kk,q,(0:Int),(0:Int)] 39)));have RG:=zH (Rd.lit w1 39 #[kk,q,(0:Int),(0:Int)] 1 4 rfl).drew;have BG:=zH (B1.alloc l1 (.cells #[kk,q,(0:Int),(0:Int)] 39)).drew;have hlt1:w.heap.size<=(w1.alloc (.cells #[kk,q,(0:Int),(0:Int)] 39)).drew.heap.size:=by simp;exact Nat.le_succ_of_le l1
     have y0d:w1.drew.cell? ⟨w.heap.size+1,q,none⟩=some (.slice Aq ln cq):=Y0.out;obtain ⟨e0,e1,e2,e3,_⟩:=G1.drew.four;have yg:=YG.out;have FG:=zH (G1.alloc (.cells #[kk,q,(0:Int),(0:Int)] 39)).drew;obtain ⟨f0,f1,f2,f3,_⟩:=(G1.alloc (.cells #[kk,q,(0:Int),(0:Int)] 39)).drew.four;go_upto_region 10 with fail
     go_region_law
      (first
       |(refine pD zF (.tmp 42) (.tmp 44) 24 zF Tryz.underlying24 ak hz4 zD (base:=w.heap.size) zA OG.out zA RG.out zV zO zD hlt1 ?_;intro A5 c5 w5 o5 gr at5;have k5:=SG.keepP zD OG.out gr q;obtain ⟨x5,z5⟩:=k5;rw [YG.out] at x5;obtain ⟨h0,h1,h2,h3,_⟩:=(FG.grown gr hfarq).four;have S5:=zH (SG.pushOne zD (g:=⟨kk,(q:Nat),0,0⟩) hq HLN.out YG.out gr o5 at5);have B5:=zH ((ag BG.out hlt1 OG.out zR gr).setCell (p:=⟨w.heap.size+1,q,none⟩) (Nat.le_succ _) (.slice A5 (ln+1) c5))))
     all_goals go_wp2_with fail
     all_goals go_roundg (gk - 1)
     all_goals first
      |omega
      |exact ⟨k+1,_,zO,by go_num,NX.out,HOK2.out.1,by have:=HOK2.out.2;have:=HWT.out;omega,HAL2.out,S5.out,B5.out⟩
    ·obtain ⟨wo,rfl⟩:∃ x,x=wr:=⟨_,rfl⟩;have ha1:(aA g.k == 1)=false:=by simpa using ha
     obtain ⟨a,haa⟩:∃ a,(aA g.k).toNat=a:=⟨_,rfl⟩;obtain ⟨zs,hzs⟩:∃ zs,ik g.k g.a g.b g.c=zs:=⟨_,rfl⟩;have ha4:a<=4:=by have:=ev g.k;omega
     have HQU:=zH (show tV g=zs.map Int.toNat by rw [Eu,hzs]);have HZB:=zH (show ∀ x ∈ zs,0<=x/\x < 4 by rw [<- hzs];exact HSH.out.2);have HA:=zH haa;have HZ:=zH hzs;obtain ⟨E,hE⟩:∃ E,ct s (tV g)=E:=⟨_,rfl⟩;have HRG:=zH (LA ha hE);rw [HRG.out] at NX;have HE0:=zH (show ct s ((tV g).drop 0)=E from hE);have hG8w:wo.heap.size < w1.heap.size:=G1.lt;have HG8:=zH (show some wo.heap.size ≠ (Value.slice A0 s.1.length c0).ownBlock from fun e=>by
      obtain ⟨A',c',e',o'⟩:=HSR.out.out;injection e' with e1 _ e2
      subst e1 e2;have:=(o'.lt _ e.symm).2;omega)
     clear hE ha haa hzs;go_wp2_with fail;refine (Lx _ _ _ _ _).mono ?_;rw [HA.out,HZ.out];rintro e w2 ⟨A2,c2,rfl,rq,b2,hfr2⟩;have G2:=zH (G1.below b2);have S2:=zH (S1.below b2);have B2:=zH (B1.trans (b2.mono l1));have RQ:=zH rq;have l2:=B2.size;have hQ1:=zH (show ∀ b off,A2=some ⟨b,off,none⟩->some b ≠ (Value.slice A0 s.1.length c0).ownBlock from fun b off e e2=>by
      obtain ⟨A',c',e',o'⟩:=S1.out.out;injection e' with e1 _ e3
      subst e1 e3;have h1:=(o'.lt _ e2.symm).2;have h2:=hfr2 b off e;omega)
     have hQP:=zH (show ∀ b off,A2=some ⟨b,off,none⟩->b ≠ w.heap.size+1 from fun b off e=>by
      have h1:=S1.lt;have h2:=hfr2 b off e;omega)
     have hGP:wo.heap.size ≠ w.heap.size+1:=by have:=HSR.lt;omega
     clear rq b2 hfr2 g0 g1' g2 g3 G1 S1 B1 l1;obtain ⟨gq,rfl⟩:∃ q,q=gk:=⟨_,rfl⟩;go_wp2_with fail;go_loopg [5,10] a (fun g' v5 i wx=>∃ (j:Nat) (s':iw),j+g'=a/\i=.int .i64 (j:Nat)/\ct s' ((tV g).drop j)=E/\fH s'/\lf s'<=100 * k/\SR w.heap.size (w.heap.size+1) 24 s' v5 wx/\Bx wx wo 39 #[g.k,g.a,g.b,g.c]/\some wo.heap.size ≠ v5.ownBlock/\RdI wx A2 a zs/\(∀ b off,A2=some ⟨b,off,none⟩->some b ≠ v5.ownBlock)/\Below w w wx)
     case atStart=>exact ⟨0,s,zO,rfl,HE0.out,HOK.out,HWT.out,S2.out,G2.out,HG8.out,RQ.out,hQ1.out,B2.out⟩
     case round =>
      clear S2 G2 HG8 RQ hQ1 B2 HE0 l2 HSR HS HOK HWT HB HRG;obtain ⟨j,s',hj,rfl,hE,hok,hwt,hSR,hG,hG8,hRQ,hQ1,hB⟩:=hrel;have HE:=zH hE;have HOK:=zH hok;have HWT:=zH hwt;have HSR:=zH hSR;have HG:=zH hG;have HG8:=zH hG8;have HRQ:=zH hRQ;have HQ1:=zH hQ1;have HB:=zH hB;have lx:=hB.size;obtain ⟨A5,c5,rfl,o5⟩:=hSR.out;have O5:=zH o5;clear hE hok hwt hSR hG hG8 hRQ hQ1 hB o5;by_cases hja:j < a
      ·obtain ⟨b4,f4,x,rfl,hb4,hd4,x0⟩:=HRQ.at_ hja;have hxj:zs[j]? = some x:=by
        have hlk:j < zs.length:=by rw [HRQ.out.1];exact hja
        rw [ax hlk] at hd4;injection hd4 with hd4 _;rw [List.getElem?_eq_getElem hlk,hd4]
       obtain ⟨hx0,hx4⟩:=HZB.out x (List.mem_of_getElem? hxj);obtain ⟨q,rfl⟩:∃ q:Nat,x=(q:Nat):=⟨x.toNat,zO⟩;have hq:q < 4:=zO;have HNX:=zH (jG (q:=q) (by rw [HQU.out,List.getElem?_map,hxj];rfl) HE.out);have HOK2:=zH (mg HOK hq);obtain ⟨Aq,cq,y0,y1,oq⟩:=HSR.run hq;have hln:=tx HOK.out.1 hq;have hwtn:=HWT.out;have RQ:=zH (HOK.out.2 q hq);have HSL:=zH (jf (s'.2.getD q []));obtain ⟨lr,hlr⟩:∃ lr,s'.2.getD q []=lr:=⟨_,rfl⟩;have HLR:=zH hlr;rw [hlr] at y0 oq RQ hln HSL;have OQ:=zH oq;have jaI:(j:Int) < (a:Int):=zO;have qI:(q:Int) < 4:=zO;have q0:(0:Int)<=(q:Int):=zO;have Y0:=zH y0;have X0:=zH x0;have HS5:=zH (show s'.1.length<=100 * k by have:=HWT.out;unfold lf at this;omega);have hxj2:=zH hxj;clear hd4 hxj hx0 hx4 hlr oq y1;go_wp2_with fail;refine (zU q lr.length cq Aq lr _ hq (RdG.own OQ) zO RQ).mono ?_;rintro e w6 ⟨A6,c6,rfl,o6,b6⟩
       have S6:=zH (HSR.below b6);have G6:=zH (HG.below b6);have Q6:=zH (HRQ.below b6);have B6:=zH (HB.trans (b6.mono lx));have O6:=zH (ab O5 b6);have P6:=zH (RdG.own o6);have l6:=B6.size;have hs5:=HS5.out;have hs6:=HSL.out;have hb46:b4 < w6.heap.size:=Nat.lt_of_lt_of_le hb4 b6.size;have hG86:wo.heap.size < w6.heap.size:=G6.lt;clear o6 b6 y0 x0 HSR HG HRQ HB O5 OQ
       go_wp2_with (at_builtin;refine jF rfl (.tmp 55) (.tmp 63) 24 rfl Tryz.underlying24 ak hz4 zD rfl O6.out rfl P6.out.2 aQ zO zD l6 ?_;intro A7 c7 w7 o7 g7 at7;have S7:=zH (S6.pushOut zD rfl g7 o7 at7);have G7:=zH (G6.grown g7 HG8.out);have Q7:=zH (show RdI w7 _ a zs from ⟨Q6.out.1,Q6.out.2.grown g7 HQ1.out⟩);have B7:=zH (ag B6.out l6 O6.out zR g7);have N7:=zH (show some wo.heap.size ≠ (Value.slice A7 (s'.1.length+(cH lr).length) c7).ownBlock from fun e=>by (rcases at7 with h | h<;>rw [h] at e;exact HG8.out e;injection e with e;omega));have NQ7:=zH (show some b4 ≠ (Value.slice A7 (s'.1.length+(cH lr).length) c7).ownBlock from fun e=>by (rcases at7 with h | h<;>rw [h] at e;exact HQ1.out b4 f4 rfl e;injection e with e;omega));obtain ⟨Av,cv,v0,v1,_⟩:=S7.run hq;have x7:=TJ Q7.out hxj2.out;clear o7 g7 at7)
       have HEM:=zH (show eV s' q=(s'.1++cH lr,s'.2.set q []) by unfold eV;rw [HLR.out]);rw [HEM.out] at HNX HOK2;go_roundg (gk - 1)
       case measure=>omega
       case rel =>
        exact ⟨j+1,(s'.1++cH lr,s'.2.set q []),zO,by go_num,HNX.out,HOK2.out.1,Nat.le_trans HOK2.out.2 hwtn,S7.clear zD hq,G7.far (p:=⟨w.heap.size+1,q,none⟩) hGP _,N7.out,⟨Q7.out.1,Q7.out.2.setCell _ fun b off e=>hQP.out b off e⟩,fun b off e=>by injection e with e;injection e with e;subst e;exact NQ7.out,B7.setCell (p:=⟨w.heap.size+1,q,none⟩) (Nat.le_succ _) _⟩
      ·obtain rfl:j=a:=zO;have HEE:=zH (kM (by rw [HQU.out,List.length_map,HRQ.out.1];exact zR) HE.out);obtain ⟨e0,e1,e2,e3,_⟩:=HG.four;have SG:=zH (HSR.alloc g);have OG:=zH (O5.alloc g);have BG:=zH (HB.alloc lx g);have hs5:s'.1.length<=100 * k:=by have:=HWT.out;unfold lf at this;omega
       have HOK2:=zH (nu (g:=g) HOK);rw [<- HEE.out] at NX;clear HSR O5 HB
       go_wp2_with (at_builtin;refine jF rfl (.tmp 71) (.tmp 73) 24 rfl Tryz.underlying24 ak hz4 zD rfl OG.out rfl (Rd.lit wr 39 #[g.k,g.a,g.b,g.c] 1 4 rfl) zV zO zD zJ ?_;intro A7 c7 w7 o7 g7 at7;have S7:=zH (SG.pushOut zD (news:=[g]) rfl g7 (uX g ▸ o7) at7);have B7:=zH (ag BG.out BG.size OG.out zR g7))
       go_roundg (gq - 1)
       all_goals first
        |omega
        |exact ⟨k+1,(s'.1++[g],s'.2),zO,by go_num,NX.out,HOK2.out.1,by have:=HOK2.out.2;have:=HWT.out;omega,HAL2.out,S7.out,B7.out⟩
  ·obtain rfl:k=m:=zO;have HSE:=zH (uW (by rw [HN.out];exact zR) HS.out);have hall:jP l n=true:=by have:=HAL.out;rwa [List.take_of_length_le (by rw [HN.out];exact zR)] at this
   have HRES:=zH (show aO l n=(ct s [0,1,2,3]).1 by rw [qh hall,HSE.out,HSS.out]);obtain ⟨F,hF⟩:∃ F,ct s [0,1,2,3]=F:=⟨_,rfl⟩;rw [hF] at HRES;have HF:=zH (show ct s (([0,1,2,3]:List Nat).drop 0)=F from hF);have HWT2:=zH HWT.out;have HOKS:=HOK;clear hF hall;go_wp2_with fail;go_loopg [5,11] 4 (fun g v5 i wx=>∃ (q:Nat) (e:iw),q+g=4/\i=.int .i64 (q:Nat)/\ct e (([0,1,2,3]:List Nat).drop q)=F/\(∀ p,q<=p->e.2.getD p []=s.2.getD p [])/\fH e/\lf e<=100 * k/\SR w.heap.size (w.heap.size+1) 24 (e.1,s.2) v5 wx/\Below w w wx)
   case atStart=>exact ⟨0,s,zO,rfl,HF.out,fun _ _=>rfl,HOK.out,HWT.out,HSR.out,HB.out⟩
   case round =>
    clear HF HSR HB HWT HS HAL;obtain ⟨q,e,hq4,rfl,hE,hsame,hok,hwt,hSR,hB⟩:=hrel;have HE:=zH hE;have HSM:=zH hsame;have HOK:=zH hok;have HWT:=zH hwt;have HSR:=zH hSR;have HB:=zH hB;have lx:=hB.size;obtain ⟨A5,c5,rfl,o5⟩:=hSR.out;have O5:=zH o5;clear hE hsame hok hwt hSR hB o5;by_cases hq:q < 4
    ·have hqq:([0,1,2,3]:List Nat)[q]? = some q:=by
      obtain rfl | rfl | rfl | rfl:q=0\/q=1\/q=2\/q=3:=zO
      all_goals rfl
     have HNX:=zH (jG hqq HE);have HOK2:=zH (mg HOK hq);obtain ⟨Aq,cq,y0,y1,oq⟩:=HSR.run hq;have hln:=tx HOK.out.1 hq;have hwtn:=HWT.out;have RQ:=zH (HOK.out.2 q hq);have HSL:=zH (jf (e.2.getD q []));have hes:=HSM.out q zR;obtain ⟨lr,hlr⟩:∃ lr,s.2.getD q []=lr:=⟨_,rfl⟩;have hlr2:e.2.getD q []=lr:=by rw [hes,hlr]
     have HLR:=zH hlr2;rw [show (e.1,s.2).2.getD q []=lr from hlr] at y0 oq;rw [hlr2] at RQ hln HSL;have OQ:=zH oq;have HS5:=zH (show e.1.length<=100 * k by have:=HWT.out;unfold lf at this;omega);have qI:(q:Int) < 4:=zO;have q0:(0:Int)<=(q:Int):=zO;have HEM:=zH (show eV e q=(e.1++cH lr,e.2.set q []) by unfold eV;rw [hlr2]);have HSM2:=zH (show ∀ p,q+1<=p->(e.2.set q []).getD p []=s.2.getD p [] from fun p hp=>by
      rw [iP (by rw [HOK.out.1];exact hq),if_neg zO];exact HSM.out p zO)
     rw [HEM.out] at HNX HOK2;clear hqq hes hlr hlr2 oq y1;go_wp2_with fail;refine (zU q lr.length cq Aq lr _ hq (RdG.own OQ) zO RQ).mono ?_;rintro e' w6 ⟨A6,c6,rfl,o6,b6⟩;have S6:=zH (HSR.below b6);have B6:=zH (HB.trans (b6.mono lx));have O6:=zH (ab O5 b6);have P6:=zH (RdG.own o6);have l6:=B6.size;have hs5:=HS5.out;have hs6:=HSL.out;clear o6 b6 y0 HSR HB O5 OQ
     go_wp2_with (at_builtin;refine jF rfl (.tmp 81) (.tmp 86) 24 rfl Tryz.underlying24 ak hz4 zD rfl O6.out rfl P6.out.2 aQ zO zD l6 ?_;intro A7 c7 w7 o7 g7 at7;have S7:=zH (S6.pushOut zD rfl g7 o7 at7);have B7:=zH (ag B6.out l6 O6.out zR g7))
     go_roundg (gk - 1)
     case measure=>omega
     case rel =>
      exact ⟨q+1,(e.1++cH lr,e.2.set q []),zO,by go_num,HNX.out,HSM2.out,HOK2.out.1,Nat.le_trans HOK2.out.2 hwtn,S7.out,B7.out⟩
    ·obtain rfl:q=4:=zO;have HEE:=zH (kM (Nat.le_refl 4) HE);go_wp2_with fail;go_ret;rw [HRES.out,<- HEE.out];exact ⟨A5,c5,rfl,O5,HB⟩
end Go.Proofs.YtmenmibfkojnoaaGreat
