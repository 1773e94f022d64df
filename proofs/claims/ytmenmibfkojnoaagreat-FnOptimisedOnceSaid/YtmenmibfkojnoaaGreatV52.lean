/- Plain facts on the ways to rewrite a list: how long they are; which of them there are. Nothing is asked. Contract of BestRewrite (spec). Contract of BestRewrite (impl). -/
import Derived.Test.YtmenmibfkojnoaaGreatV51
import Derived.Test.YtmenmibfkojnoaaGreatV31
set_option maxHeartbeats 16000000
namespace Go.Proofs.YtmenmibfkojnoaaGreat
open Go.RowKit
set_option linter.unusedVariables false
theorem shortR_nil:shortR []=[]:=if_pos (Nat.zero_le _)
theorem emitR_wt (s:RSt) (q:Nat):wtR (emitR s q)<=wtR s:=by
 by_cases hq:q < s.2.length
 ·have hs:=sumL_set s.2 q [] hq
  have hl:=shortR_len (s.2.getD q [])
  unfold wtR emitR
  simp only [List.length_append,List.length_nil] at hs ⊢
  omega
 ·have e1:s.2.getD q []=[]:=by rw [List.getD_eq_getElem?_getD,List.getElem?_eq_none (by omega)];rfl
  unfold emitR
  rw [e1,shortR_nil,List.append_nil,List.set_eq_of_length_le (by omega)]
  exact zR
theorem emitsR_wt:∀ (qs:List Nat) (s:RSt),wtR (emitsR s qs)<=wtR s
 |[],s=>zR
 |q :: r,s=>Nat.le_trans (emitsR_wt r (emitR s q)) (emitR_wt s q)
theorem runG_wt (s:RSt) (g:Gt):wtR (runG s g)<=wtR s+100:=by
 unfold runG
 split
 ·by_cases hq:g.a.toNat < s.2.length
  ·have hs:=sumL_set s.2 g.a.toNat (s.2.getD g.a.toNat []++[g]) hq
   unfold wtR
   simp only [List.length_append,List.length_cons,List.length_nil] at hs ⊢
   omega
  ·rw [List.set_eq_of_length_le (by omega)]
   exact Nat.le_add_right _ _
 ·have:=emitsR_wt (quN g) s
  unfold wtR at this ⊢
  simp only [List.length_append,List.length_cons,List.length_nil]
  omega
theorem runsL_wt:∀ (l:List Gt) (s:RSt),wtR (runsL l s)<=wtR s+100 * l.length
 |[],s=>zR
 |g :: r,s=>by
  have h1:=runsL_wt r (runG s g)
  have h2:=runG_wt s g
  rw [runsL,List.length_cons]
  omega
theorem shortRs_len (l:List Gt) (n:Int):(shortRs l n).length<=100 * l.length:=by
 unfold shortRs
 split
 ·have h1:=runsL_wt l ([],[[],[],[],[]])
  have h2:=emitsR_wt [0,1,2,3] (runsL l ([],[[],[],[],[]]))
  have h3:wtR (([],[[],[],[],[]]):RSt)=0:=rfl
  unfold wtR at h1 h2 h3
  omega
 ·omega
theorem peepL_len0 (l:List Gt):(peepL l).length<=l.length:=peepN_len _ _
theorem allCl_cl {l:List Gt} (h:allCl l=true):∀ g ∈ l,cliff g.k=true:=List.all_eq_true.1 h
theorem wayC_yes {l s:List Gt} {n:Int} (hc:allCl l=true) (h:resy l n=some s):wayC l n=[peepL s]/\s.length<=60:=by
 unfold resy at h
 split at h
 ·rename_i h1
  injection h with h
  subst h
  unfold okC okA at h1
  simp only [Bool.and_eq_true,decide_eq_true_eq] at h1
  obtain ⟨⟨h2,h3,h4⟩,h5⟩:=h1
  refine ⟨?_,h5⟩
  unfold wayC okAll
  rw [if_pos]
  simp only [Bool.and_eq_true,decide_eq_true_eq]
  exact ⟨hc,h4,h2,h3,h5⟩
 ·cases h
theorem wayC_no {l:List Gt} {n:Int} (h:allCl l=false ∨ resy l n=none):wayC l n=[]:=by
 unfold wayC
 rw [if_neg]
 intro h2
 unfold okAll at h2
 simp only [Bool.and_eq_true,decide_eq_true_eq] at h2
 obtain ⟨h3,h4,h5,h6,h7⟩:=h2
 rcases h with h | h
 ·rw [h3] at h;cases h
 ·unfold resy at h
  rw [if_pos] at h
  ·cases h
  ·unfold okC okA
   simp only [Bool.and_eq_true,decide_eq_true_eq]
   exact ⟨⟨h5,h6,h4⟩,h7⟩
theorem resy_long {l:List Gt} {n:Int} (h:¬ l.length<=60):resy l n=none:=by
 unfold resy
 rw [if_neg]
 intro h2
 unfold okC at h2
 simp only [Bool.and_eq_true,decide_eq_true_eq] at h2
 exact h h2.1.2.1
theorem ways_len {l x:List Gt} {n:Int} (hx:x ∈ ways l n):x.length<=100 * l.length+60:=by
 unfold ways at hx
 rcases List.mem_append.1 hx with h | h
 ·simp only [List.mem_cons,List.not_mem_nil,or_false] at h
  rcases h with rfl | rfl | rfl
  ·have:=peepL_len0 l;omega
  ·have:=peepL_len0 (foldAllP l n).1;have:=foldAllP_len l n;omega
  ·have:=peepL_len0 (shortRs l n);have:=shortRs_len l n;omega
 ·cases hr:resy l n with
  |none=>rw [wayC_no (.inr hr)] at h;cases h
  |some s =>
   cases hc:allCl l
   ·rw [wayC_no (.inl hc)] at h;cases h
   ·obtain ⟨h1,h2⟩:=wayC_yes hc hr
    rw [h1] at h
    rw [List.mem_singleton.1 h]
    have:=peepL_len0 s
    omega
theorem leastL_next {ws:List (List Gt)} {k:Nat} {x b F:List Gt} (hx:ws[k]? = some x) (h:leastL (ws.drop k) b=F):leastL (ws.drop (k+1)) (if cost x < cost b then x else b)=F:=by
 obtain ⟨hk,e⟩:=List.getElem?_eq_some_iff.1 hx
 rw [drop_cons hk,e] at h
 exact h
theorem leastL_end {ws:List (List Gt)} {k:Nat} {b F:List Gt} (hk:ws.length<=k) (h:leastL (ws.drop k) b=F):b=F:=by
 rw [List.drop_eq_nil_of_le hk] at h
 exact h
theorem best_self (l:List Gt) (n:Int):leastL (l :: ways l n) l=best l n:=by
 show leastL (ways l n) (if cost l < cost l then l else l)=best l n
 rw [if_neg (by omega)]
 rfl
theorem best_len (l:List Gt) (n:Int):((best l n).length:Int)<=cost (best l n)/\cost (best l n)<=cost l:=by
 have h:∀ x:List Gt,(x.length:Int)<=cost x:=by
  intro x
  induction x with
  |nil=>simp [cost]
  |cons g r ih=>simp only [cost,List.length_cons];rcases costK_cases g.k with ⟨_,h⟩ | ⟨_,h⟩ | ⟨_,h⟩<;>omega
 exact ⟨h _,(leastL_le (ways l n) l).1⟩
theorem OwnW.base' {w:World} {B B':Nat} {A:Option Addr} {m c:Nat} {ws:List (List Gt)} (h:OwnW w B A m c ws) (hb:B'<=B):OwnW w B' A m c ws:=by
 obtain ⟨h1,vs,h2,h3⟩:=h
 exact ⟨h1,vs,ownsRow_base h2 hb,fun k x hx=>by obtain ⟨D,d,a,b⟩:=h3 k x hx;exact ⟨D,d,a,ownsRow_base b hb⟩⟩
set_option maxRecDepth 100000 in
theorem s_Best (n:Int) (m c:Nat) (A:Option Addr) (l:List Gt) (w:World) (hr:RdG w A m l) (hm:m<=1073741824) :
  Calls Tryz.prog 9 #[.slice A m c,.int .i64 n] w (Ret 39 4 (cellsG (best l n)) (best l n).length w):=by
 have hz4:(Value.agg #[.int .i64 0,.int .i64 0,.int .i64 0,.int .i64 0]).cells.size=4:=rfl
 have hz1:(Value.slice none 0 0).cells.size=1:=rfl
 have HW:=zH hr
 have HN:=zH hr.1
 have HL1:=zH (show (peepL l).length<=1073741824 by have:=peepL_len0 l;have:=hr.1;omega)
 have HLF:=zH (show (foldAllP l n).1.length<=2147483648 by have:=foldAllP_len l n;have:=hr.1;omega)
 have HLS:=zH (show (shortRs l n).length<=107374182400 by have:=shortRs_len l n;have:=hr.1;omega)
 have HWL:=zH (show ∀ x ∈ ways l n,x.length<=107374182460 from fun x hx=>by have:=ways_len hx;have:=hr.1;omega)
 obtain ⟨F,hF⟩:∃ F,best l n=F:=⟨_,rfl⟩
 have HF:=zH (show leastL ((ways l n).drop 0) l=F from hF)
 rw [hF]
 clear hr hF
 go_enter Tryz.func9,Tryz.ntmps9
 go_wp2_with fail
 refine (s_FoldAllP A m c l n _ HW.out hm).mono ?_
 obtain ⟨f,hf⟩:∃ f,foldAllP l n=f:=⟨_,rfl⟩
 have HFF:=zH hf
 rw [hf] at HLF ⊢
 clear hf
 rintro e w1 ⟨A1,c1,rfl,o1,b1⟩
 have O1:=zH o1
 have B1:=zH b1
 have hlf:=HLF.out
 clear o1 b1
 go_wp2_with fail
 refine (s_Peephole A m c l _ (HW.out.below B1.out) (by omega)).mono ?_
 rintro e w2 ⟨A2,c2,rfl,o2,b2⟩
 have O2:=zH (ownsRow_base o2 B1.out.size)
 have O1':=zH (ownsRow_below O1.out b2)
 have B2:=zH (below_trans B1.out b2)
 clear o2 b2 O1 B1
 go_wp2_with fail
 refine (s_Peephole A1 f.1.length c1 f.1 _ (RdG.own O1'.out) (by omega)).mono ?_
 rintro e w3 ⟨A3,c3,rfl,o3,b3⟩
 have O2':=zH (ownsRow_below O2.out b3)
 have O3:=zH (ownsRow_base o3 B2.out.size)
 have B3:=zH (below_trans B2.out b3)
 clear o3 b3 O2 O1' B2
 go_wp2_with fail
 refine (s_ShortRs n m c A l _ (HW.out.below B3.out) hm).mono ?_
 rintro e w4 ⟨A4,c4,rfl,o4,b4⟩
 have O2:=zH (ownsRow_below O2'.out b4)
 have O3':=zH (ownsRow_below O3.out b4)
 have O4:=zH o4
 have B4:=zH (below_trans B3.out b4)
 have hls:=HLS.out
 clear o4 b4 O2' O3 B3
 go_wp2_with fail
 refine (s_Peephole A4 (shortRs l n).length c4 (shortRs l n) _ (RdG.own O4.out) (by omega)).mono ?_
 rintro e w5 ⟨A5,c5,rfl,o5,b5⟩
 have Z5:=zH (below_trans B4.out b5)
 have W5:=zH (show OwnW (w5.alloc (.cells #[.slice A2 (peepL l).length c2,.slice A3 (peepL f.1).length c3,.slice A5 (peepL (shortRs l n)).length c5] 24)) w.heap.size (some ⟨w5.heap.size,0,none⟩) 3 3 [peepL l,peepL f.1,peepL (shortRs l n)] from ⟨rfl,_,World.ownsRow_lit w5 #[.slice A2 (peepL l).length c2,.slice A3 (peepL f.1).length c3,.slice A5 (peepL (shortRs l n)).length c5] 3 (below_trans B4.out b5).size (by simp [maxLen]) rfl,fun k x hx=>by
  match k,hx with
  |0,hx=>injection hx with hx;subst hx;exact ⟨A2,c2,rfl,(ownsRow_below O2.out b5).alloc _⟩
  |1,hx=>injection hx with hx;subst hx;exact ⟨A3,c3,rfl,(ownsRow_below O3'.out b5).alloc _⟩
  |2,hx=>injection hx with hx;subst hx;exact ⟨A5,c5,rfl,(ownsRow_base o5 B4.out.size).alloc _⟩
  |k+3,hx=>simp at hx⟩)
 have B5:=zH (Z5.out.alloc Z5.out.size (.cells #[.slice A2 (peepL l).length c2,.slice A3 (peepL f.1).length c3,.slice A5 (peepL (shortRs l n)).length c5] 24))
 have HWY:=zH (show ways l n=[peepL l,peepL f.1,peepL (shortRs l n)]++wayC l n by unfold ways;rw [HFF.out])
 clear o5 b5 O2 O3' O4 B4 Z5
 go_wp2_with fail
 refine (s_AllClifford A m c l _ (HW.out.below B5.out) (by omega)).mono ?_
 rintro e w6 ⟨rfl,b6⟩
 have W6:=zH (W5.out.below b6)
 have B6:=zH (B5.out.trans (b6.mono B5.out.size))
 have l6:=B6.out.size
 clear b6 W5 B5
 go_upto_if 28 with fail
 go_cut [7,8,9] from 28 to 42 (fun v7 v8 v9 wx=>∃ A' M c',v7=.slice A' M c'/\M<=1000/\OwnW wx w.heap.size A' M c' (ways l n)/\Below w.heap.size w wx)
 case first =>
  cases hc:allCl l
  ·have HE:=zH (show ways l n=[peepL l,peepL f.1,peepL (shortRs l n)] by rw [HWY.out,wayC_no (.inl hc)];rfl)
   clear hc
   go_wp2_with fail
   go_meet
   exact ⟨_,3,3,rfl,by omega,by rw [HE.out];exact W6.out,B6.out⟩
  ·have HC:=zH hc
   clear hc
   go_wp2_with fail
   refine (s_Resy n m c A l _ (HW.out.below B6.out) hm (allCl_cl HC.out)).mono ?_
   cases hrs:resy l n with
   |none =>
    have HE:=zH (show ways l n=[peepL l,peepL f.1,peepL (shortRs l n)] by rw [HWY.out,wayC_no (.inr hrs)];rfl)
    clear hrs
    rintro e w7 ⟨rfl,b7⟩
    have W7:=zH ((W6.out.below b7).alloc (.cells #[.int .i64 0,.slice none 0 0] 45))
    have B7:=zH ((B6.out.trans (b7.mono l6)).alloc (Nat.le_trans l6 b7.size) (.cells #[.int .i64 0,.slice none 0 0] 45))
    clear b7 W6 B6
    go_wp2_with fail
    go_meet
    exact ⟨_,3,3,rfl,by omega,by rw [HE.out];exact W7.out,B7.out⟩
   |some s =>
    obtain ⟨hw1,hw2⟩:=wayC_yes HC.out hrs
    have HE:=zH (show ways l n=[peepL l,peepL f.1,peepL (shortRs l n)]++[peepL s] by rw [HWY.out,hw1])
    clear hrs hw1
    rintro e w7 ⟨A7,c7,rfl,o7,b7⟩
    have W7:=zH ((W6.out.below b7).alloc (.cells #[.int .i64 n,.slice A7 s.length c7] 45))
    have B7:=zH ((B6.out.trans (b7.mono l6)).alloc (Nat.le_trans l6 b7.size) (.cells #[.int .i64 n,.slice A7 s.length c7] 45))
    have O7:=zH (RdG.own (o7.alloc (.cells #[.int .i64 n,.slice A7 s.length c7] 45)))
    have X7:=zH (Bx.new w7 45 #[.int .i64 n,.slice A7 s.length c7])
    obtain ⟨x0,x1,_⟩:=X7.out.two
    have l7:=B7.out.size
    clear o7 b7 W6 B6
    go_wp2_with fail
    refine (s_Peephole A7 s.length c7 s _ O7.out (by omega)).mono ?_
    rintro e w8 ⟨A8,c8,rfl,o8,b8⟩
    have O8:=zH ((ownsRow_base o8 l7).alloc (.cells #[.slice A8 (peepL s).length c8] 24))
    have B8:=zH ((B7.out.trans (b8.mono l7)).alloc (Nat.le_trans l7 b8.size) (.cells #[.slice A8 (peepL s).length c8] 24))
    obtain ⟨hlw,vs,hv,hiw⟩:=(W7.out.below b8).alloc (.cells #[.slice A8 (peepL s).length c8] 24)
    have HV:=zH hv
    have HI:=zH hiw
    have HLW:=zH hlw
    have l8:=B8.out.size
    clear o8 b8 W7 B7 O7 X7 x0 x1 hlw hv hiw
    go_wp2_with (at_builtin;refine wpList_app rfl (.tmp 37) (.tmp 41) 42 rfl Tryz.underlying42 infoGs hz1 (by decide) rfl HV.out rfl (Rd.lit w8 24 #[.slice A8 (peepL s).length c8] 1 1 rfl) (by simp [Value.oneCell']) (by omega) (by decide) l8 ?_;intro A9 c9 w9 o9 g9;have W9:=zH (OwnW.push (x:=peepL s) (D:=A8) (d:=c8) HLW.out HV.out HI.out O8.out g9 o9);have B9:=zH (below_grown B8.out l8 HV.out zR g9))
    go_meet
    exact ⟨A9,4,c9,rfl,by omega,by rw [HE.out];exact W9.out,B9.out⟩
 case rest =>
  obtain ⟨A',M,c',rfl,hM,hW,hB⟩:=hcut
  have WW:=zH hW
  have BB:=zH hB
  have lw:=hB.size
  clear hW hB W6 B6 l6
  obtain ⟨w9,rfl⟩:∃ x,x=wc:=⟨_,rfl⟩
  go_wp2_with (at_builtin;refine wpList_mk0 rfl (.tmp 43) (.tmp 44) 24 rfl Tryz.underlying24 infoGate hz4 (base:=w9.heap.size) rfl (Bx.new' (by simp)) zR rfl ((HW.out.below BB.out).2.alloc _) (by omega) (by decide) ?_;intro A0 c0 wa o0 b0;have ZB:=zH (((Below.refl w9.heap.size w9).alloc zR (.cells #[] 39)).trans (b0.mono (by simp)));have O0:=zH (show wa.ownsRow w.heap.size 39 4 (.slice A0 l.length c0) l.length (cellsG l) by rw [HN.out];exact ownsRow_base o0 lw);have WA:=zH (WW.out.below ZB.out);have BA:=zH (BB.out.trans (ZB.out.mono lw));rw [<- HN.out];clear o0 b0 ZB)
  go_loopg [10,11] M (fun g v10 i wr=>∃ (k:Nat) (A1:Option Addr) (c1:Nat) (b:List Gt),k+g=M/\i=.int .i64 (k:Nat)/\v10=.slice A1 b.length c1/\leastL ((ways l n).drop k) b=F/\b.length<=107374182460/\wr.ownsRow w.heap.size 39 4 (.slice A1 b.length c1) b.length (cellsG b)/\OwnW wr w.heap.size A' M c' (ways l n)/\Below w.heap.size w wr)
  case atStart=>exact ⟨0,A0,c0,l,by omega,rfl,rfl,HF.out,by have:=HN.out;omega,O0.out,WA.out,BA.out⟩
  case round =>
   clear O0 WA BA HF WW BB
   obtain ⟨k,A1,c1,b,hk,rfl,rfl,hF,hbl,hO,hW,hB⟩:=hrel
   have HF:=zH hF
   have O1:=zH hO
   have W1:=zH hW
   have B1:=zH hB
   clear hF hO hW hB
   by_cases hlt:k < M
   ·obtain ⟨x,hx⟩:=get_lt (l:=ways l n) (k:=k) (by rw [W1.out.1];exact hlt)
    obtain ⟨bb,off,D,d,rfl,hbl2,y0,ox⟩:=W1.out.at_ hx
    have OX:=zH ox
    have NX:=zH (leastL_next hx HF.out)
    have hxl:=HWL.out x (List.mem_of_getElem? hx)
    have kn:(k:Int) < (M:Int):=by omega
    clear hx ox
    go_wp2_with fail
    refine (s_GateCost D x.length d x _ (RdG.own OX.out) (by omega)).mono ?_
    rintro e w2 ⟨rfl,b2⟩
    have O2:=zH (ownsRow_below O1.out b2)
    have W2:=zH (W1.out.below b2)
    have B2:=zH (B1.out.trans (b2.mono B1.out.size))
    have OX2:=zH (ownsRow_below OX.out b2)
    have y2:=(b2.cell (p:=⟨bb,off+k,none⟩) hbl2).trans y0
    have hbl3:bb < w2.heap.size:=Nat.lt_of_lt_of_le hbl2 b2.size
    clear b2 O1 W1 B1 OX y0
    go_wp2_with fail
    refine (s_GateCost A1 b.length c1 b _ (RdG.own O2.out) (by omega)).mono ?_
    rintro e w3 ⟨rfl,b3⟩
    have O3:=zH (ownsRow_below O2.out b3)
    have W3:=zH (W2.out.below b3)
    have B3:=zH (B2.out.trans (b3.mono B2.out.size))
    have OX3:=zH (ownsRow_below OX2.out b3)
    have y3:=(b3.cell (p:=⟨bb,off+k,none⟩) hbl3).trans y2
    clear b3 O2 W2 B2 OX2 y2
    by_cases hc:cost x < cost b
    ·have HN2:=zH (show leastL ((ways l n).drop (k+1)) x=F by have:=NX.out;rwa [if_pos hc] at this)
     have hcb:decide (cost x < cost b)=true:=decide_eq_true hc
     go_wp2_with fail
     go_roundg (gk - 1)
     all_goals first
      |omega
      |exact ⟨k+1,D,d,x,by omega,by go_num,rfl,HN2.out,hxl,OX3.out,W3.out,B3.out⟩
    ·have HN2:=zH (show leastL ((ways l n).drop (k+1)) b=F by have:=NX.out;rwa [if_neg hc] at this)
     have hcb:decide (cost x < cost b)=false:=decide_eq_false hc
     go_wp2_with fail
     go_roundg (gk - 1)
     all_goals first
      |omega
      |exact ⟨k+1,A1,c1,b,by omega,by go_num,rfl,HN2.out,hbl,O3.out,W3.out,B3.out⟩
   ·obtain rfl:k=M:=by omega
    have HE:=zH (leastL_end (by rw [W1.out.1];exact zR) HF.out)
    go_wp2_with fail
    go_ret
    rw [<- HE.out]
    exact ⟨A1,c1,rfl,O1.out,B1.out⟩
set_option maxRecDepth 100000 in
theorem i_Best (n:Int) (m c:Nat) (A:Option Addr) (l:List Gt) (w:World) (hr:RdG w A m l) (hm:m<=1073741824) :
  Calls Tryz.prog 11 #[.slice A m c,.int .i64 n] w (Ret 39 4 (cellsG (best l n)) (best l n).length w):=by
 have hz4:(Value.agg #[.int .i64 0,.int .i64 0,.int .i64 0,.int .i64 0]).cells.size=4:=rfl
 have hz1:(Value.slice none 0 0).cells.size=1:=rfl
 obtain rfl:m=l.length:=hr.1.symm
 have HW:=zH hr
 have HL1:=zH (show (peepL l).length<=1073741824 by have:=peepL_len0 l;have:=hr.1;omega)
 have HLF:=zH (show (foldAllP l n).1.length<=2147483648 by have:=foldAllP_len l n;have:=hr.1;omega)
 have HLS:=zH (show (shortRs l n).length<=107374182400 by have:=shortRs_len l n;have:=hr.1;omega)
 have HWL:=zH (show ∀ x ∈ l :: ways l n,x.length<=107374182460 from fun x hx=>by
  have h1:=hr.1
  rcases List.mem_cons.1 hx with h | h
  ·rw [h];omega
  ·have:=ways_len h;omega)
 obtain ⟨F,hF⟩:∃ F,best l n=F:=⟨_,rfl⟩
 have HF:=zH (show leastL ((l :: ways l n).drop 0) l=F from (best_self l n).trans hF)
 rw [hF]
 clear hr hF
 go_enter Tryz.func11,Tryz.ntmps11
 go_wp2_with fail
 refine (i_FoldAllP A l.length c l n _ HW.out hm).mono ?_
 obtain ⟨f,hf⟩:∃ f,foldAllP l n=f:=⟨_,rfl⟩
 have HFF:=zH hf
 rw [hf] at HLF ⊢
 clear hf
 rintro e w1 ⟨A1,c1,rfl,o1,b1⟩
 have O1:=zH o1
 have B1:=zH b1
 have hlf:=HLF.out
 clear o1 b1
 go_wp2_with fail
 refine (i_copyGates A l.length c l _ (HW.out.below B1.out) (by omega)).mono ?_
 rintro e w1b ⟨Ac,cc,rfl,oc,bc⟩
 have OC0:=zH (ownsRow_base oc B1.out.size)
 have O1:=zH (ownsRow_below O1.out bc)
 have B1:=zH (below_trans B1.out bc)
 clear oc bc
 go_wp2_with fail
 refine (i_Peephole A l.length c l _ (HW.out.below B1.out) (by omega)).mono ?_
 rintro e w2 ⟨A2,c2,rfl,o2,b2⟩
 have OC1:=zH (ownsRow_below OC0.out b2)
 have O2:=zH (ownsRow_base o2 B1.out.size)
 have O1':=zH (ownsRow_below O1.out b2)
 have B2:=zH (below_trans B1.out b2)
 clear o2 b2 O1 B1
 go_wp2_with fail
 refine (i_Peephole A1 f.1.length c1 f.1 _ (RdG.own O1'.out) (by omega)).mono ?_
 rintro e w3 ⟨A3,c3,rfl,o3,b3⟩
 have O2':=zH (ownsRow_below O2.out b3)
 have OC2:=zH (ownsRow_below OC1.out b3)
 have O3:=zH (ownsRow_base o3 B2.out.size)
 have B3:=zH (below_trans B2.out b3)
 clear o3 b3 O2 O1' B2
 go_wp2_with fail
 refine (i_ShortRs n l.length c A l _ (HW.out.below B3.out) hm).mono ?_
 rintro e w4 ⟨A4,c4,rfl,o4,b4⟩
 have O2:=zH (ownsRow_below O2'.out b4)
 have OC3:=zH (ownsRow_below OC2.out b4)
 have O3':=zH (ownsRow_below O3.out b4)
 have O4:=zH o4
 have B4:=zH (below_trans B3.out b4)
 have hls:=HLS.out
 clear o4 b4 O2' O3 B3
 go_wp2_with fail
 refine (i_Peephole A4 (shortRs l n).length c4 (shortRs l n) _ (RdG.own O4.out) (by omega)).mono ?_
 rintro e w5 ⟨A5,c5,rfl,o5,b5⟩
 have Z5:=zH (below_trans B4.out b5)
 have W5:=zH (show OwnW (w5.alloc (.cells #[.slice Ac l.length cc,.slice A2 (peepL l).length c2,.slice A3 (peepL f.1).length c3,.slice A5 (peepL (shortRs l n)).length c5] 24)) w.heap.size (some ⟨w5.heap.size,0,none⟩) 4 4 [l,peepL l,peepL f.1,peepL (shortRs l n)] from ⟨rfl,_,World.ownsRow_lit w5 #[.slice Ac l.length cc,.slice A2 (peepL l).length c2,.slice A3 (peepL f.1).length c3,.slice A5 (peepL (shortRs l n)).length c5] 4 (below_trans B4.out b5).size (by simp [maxLen]) rfl,fun k x hx=>by
  match k,hx with
  |0,hx=>injection hx with hx;subst hx;exact ⟨Ac,cc,rfl,(ownsRow_below OC3.out b5).alloc _⟩
  |1,hx=>injection hx with hx;subst hx;exact ⟨A2,c2,rfl,(ownsRow_below O2.out b5).alloc _⟩
  |2,hx=>injection hx with hx;subst hx;exact ⟨A3,c3,rfl,(ownsRow_below O3'.out b5).alloc _⟩
  |3,hx=>injection hx with hx;subst hx;exact ⟨A5,c5,rfl,(ownsRow_base o5 B4.out.size).alloc _⟩
  |k+4,hx=>simp at hx⟩)
 have B5:=zH (Z5.out.alloc Z5.out.size (.cells #[.slice Ac l.length cc,.slice A2 (peepL l).length c2,.slice A3 (peepL f.1).length c3,.slice A5 (peepL (shortRs l n)).length c5] 24))
 have HWY:=zH (show l :: ways l n=[l,peepL l,peepL f.1,peepL (shortRs l n)]++wayC l n by unfold ways;rw [HFF.out];rfl)
 obtain ⟨WS,hws⟩:∃ WS,l :: ways l n=WS:=⟨_,rfl⟩
 have HWS:=zH hws
 rw [hws] at HWY HWL HF
 clear hws
 clear o5 b5 O2 O3' O4 B4 Z5
 obtain ⟨K,hK⟩:∃ K,(allCl l && decide (l.length<=60))=K:=⟨_,rfl⟩
 have HKK:=zH hK
 clear hK
 go_upto_region 3 with fail
 go_cut [36] from 30 to 36 (fun v wx=>v=.bool K/\OwnW wx w.heap.size (some ⟨w5.heap.size,0,none⟩) 4 4 [l,peepL l,peepL f.1,peepL (shortRs l n)]/\Below w.heap.size w wx)
 case first =>
  go_wp2_with fail
  refine (i_AllClifford A l.length c l _ (HW.out.below B5.out) (by omega)).mono ?_
  rintro e w6 ⟨rfl,b6⟩
  have W6:=zH (W5.out.below b6)
  have B6:=zH (B5.out.trans (b6.mono B5.out.size))
  cases hc:allCl l
  ·have HK2:=zH (show K=false by rw [<- HKK.out,hc];rfl)
   go_wp2_with fail
   go_meet
   exact ⟨by rw [HK2.out],W6.out,B6.out⟩
  ·by_cases h60:l.length<=60
   ·have h60I:(l.length:Int)<=60:=by omega
    have h60b:decide (l.length<=60)=true:=decide_eq_true h60
    have HK2:=zH (show K=true by rw [<- HKK.out,hc,h60b];rfl)
    go_wp2_with fail
    go_meet
    exact ⟨by rw [HK2.out],W6.out,B6.out⟩
   ·have h60I:¬ (l.length:Int)<=60:=by omega
    have h60c:decide ((l.length:Int)<=60)=false:=decide_eq_false h60I
    have h60b:decide (l.length<=60)=false:=decide_eq_false h60
    have HK2:=zH (show K=false by rw [<- HKK.out,hc,h60b];rfl)
    go_wp2_with fail
    go_meet
    exact ⟨by rw [HK2.out],W6.out,B6.out⟩
 case rest =>
 obtain ⟨rfl,hW6,hB6⟩:=hcut
 have W6:=zH hW6
 have B6:=zH hB6
 have l6:=hB6.size
 clear hW6 hB6 W5 B5
 obtain ⟨w6,rfl⟩:∃ x,x=wc:=⟨_,rfl⟩
 go_upto_if 36 with fail
 go_cut [7,8,9] from 37 to 50 (fun v7 v8 v9 wx=>∃ A' M c',v7=.slice A' M c'/\M<=1000/\OwnW wx w.heap.size A' M c' WS/\Below w.heap.size w wx)
 case first =>
  have hb:=HKK.out
  cases K
  ·have HE:=zH (show WS=[l,peepL l,peepL f.1,peepL (shortRs l n)] by
    have h0:wayC l n=[]:=by
     rcases (Bool.and_eq_false_iff.1 hb) with h | h
     ·exact wayC_no (.inl h)
     ·exact wayC_no (.inr (resy_long (of_decide_eq_false h)))
    rw [HWY.out,h0];rfl)
   clear hb
   go_wp2_with fail
   go_meet
   exact ⟨_,4,4,rfl,by omega,by rw [HE.out];exact W6.out,B6.out⟩
  ·have HC:=zH (Bool.and_eq_true_iff.1 hb).1
   clear hb
   go_wp2_with fail
   refine (i_Resy n l.length c A l _ (HW.out.below B6.out) hm (allCl_cl HC.out)).mono ?_
   cases hrs:resy l n with
   |none =>
    have HE:=zH (show WS=[l,peepL l,peepL f.1,peepL (shortRs l n)] by rw [HWY.out,wayC_no (.inr hrs)];rfl)
    clear hrs
    rintro e w7 ⟨rfl,b7⟩
    have W7:=zH ((W6.out.below b7).alloc (.cells #[.int .i64 0,.slice none 0 0] 45))
    have B7:=zH ((B6.out.trans (b7.mono l6)).alloc (Nat.le_trans l6 b7.size) (.cells #[.int .i64 0,.slice none 0 0] 45))
    clear b7 W6 B6
    go_wp2_with fail
    go_meet
    exact ⟨_,4,4,rfl,by omega,by rw [HE.out];exact W7.out,B7.out⟩
   |some s =>
    obtain ⟨hw1,hw2⟩:=wayC_yes HC.out hrs
    have HE:=zH (show WS=[l,peepL l,peepL f.1,peepL (shortRs l n)]++[peepL s] by rw [HWY.out,hw1])
    clear hrs hw1
    rintro e w7 ⟨A7,c7,rfl,o7,b7⟩
    have W7:=zH ((W6.out.below b7).alloc (.cells #[.int .i64 n,.slice A7 s.length c7] 45))
    have B7:=zH ((B6.out.trans (b7.mono l6)).alloc (Nat.le_trans l6 b7.size) (.cells #[.int .i64 n,.slice A7 s.length c7] 45))
    have O7:=zH (RdG.own (o7.alloc (.cells #[.int .i64 n,.slice A7 s.length c7] 45)))
    have X7:=zH (Bx.new w7 45 #[.int .i64 n,.slice A7 s.length c7])
    obtain ⟨x0,x1,_⟩:=X7.out.two
    have l7:=B7.out.size
    clear o7 b7 W6 B6
    go_wp2_with fail
    refine (i_Peephole A7 s.length c7 s _ O7.out (by omega)).mono ?_
    rintro e w8 ⟨A8,c8,rfl,o8,b8⟩
    have O8:=zH ((ownsRow_base o8 l7).alloc (.cells #[.slice A8 (peepL s).length c8] 24))
    have B8:=zH ((B7.out.trans (b8.mono l7)).alloc (Nat.le_trans l7 b8.size) (.cells #[.slice A8 (peepL s).length c8] 24))
    obtain ⟨hlw,vs,hv,hiw⟩:=(W7.out.below b8).alloc (.cells #[.slice A8 (peepL s).length c8] 24)
    have HV:=zH hv
    have HI:=zH hiw
    have HLW:=zH hlw
    have l8:=B8.out.size
    clear o8 b8 W7 B7 O7 X7 x0 x1 hlw hv hiw
    go_wp2_with (at_builtin;refine wpList_app rfl (.tmp 45) (.tmp 49) 42 rfl Tryz.underlying42 infoGs hz1 (by decide) rfl HV.out rfl (Rd.lit w8 24 #[.slice A8 (peepL s).length c8] 1 1 rfl) (by simp [Value.oneCell']) (by omega) (by decide) l8 ?_;intro A9 c9 w9 o9 g9;have W9:=zH (OwnW.push (x:=peepL s) (D:=A8) (d:=c8) HLW.out HV.out HI.out O8.out g9 o9);have B9:=zH (below_grown B8.out l8 HV.out zR g9))
    go_meet
    exact ⟨A9,5,c9,rfl,by omega,by rw [HE.out];exact W9.out,B9.out⟩
 case rest =>
  obtain ⟨A',M,c',rfl,hM,hW,hB⟩:=hcut
  have WW:=zH hW
  have BB:=zH hB
  have lw:=hB.size
  clear hW hB W6 B6 l6
  obtain ⟨w9,rfl⟩:∃ x,x=wc:=⟨_,rfl⟩
  have hM0:0 < M:=by
   have h1:=WW.out.1
   have h2:=congrArg List.length HWS.out
   rw [List.length_cons] at h2
   omega
  obtain ⟨bq,oq,D0,d0,rfl,hb0,y0,o0⟩:=WW.out.at_ (k:=0) (x:=l) (by rw [<- HWS.out];rfl)
  have O0:=zH o0
  have mI:(0:Int) < (M:Int):=by omega
  rw [Nat.add_zero] at y0
  clear o0
  go_wp2_with fail
  go_loopg [10,56] M (fun g v10 i wr=>∃ (k:Nat) (A1:Option Addr) (c1:Nat) (b:List Gt),k+g=M/\i=.int .i64 (k:Nat)/\v10=.slice A1 b.length c1/\leastL ((WS).drop k) b=F/\b.length<=107374182460/\wr.ownsRow w.heap.size 39 4 (.slice A1 b.length c1) b.length (cellsG b)/\OwnW wr w.heap.size (some ⟨bq,oq,none⟩) M c' WS/\Below w.heap.size w wr)
  case atStart=>exact ⟨0,D0,d0,l,by omega,rfl,rfl,HF.out,by omega,O0.out,WW.out,BB.out⟩
  case round =>
   clear O0 HF WW BB y0
   obtain ⟨k,A1,c1,b,hk,rfl,rfl,hF,hbl,hO,hW,hB⟩:=hrel
   have HF:=zH hF
   have O1:=zH hO
   have W1:=zH hW
   have B1:=zH hB
   clear hF hO hW hB
   by_cases hlt:k < M
   ·obtain ⟨x,hx⟩:=get_lt (l:=WS) (k:=k) (by rw [W1.out.1];exact hlt)
    obtain ⟨bb,off,D,d,hA0,hbl2,y0,ox⟩:=W1.out.at_ hx
    obtain ⟨rfl,rfl⟩:bq=bb/\oq=off:=by injection hA0 with h;injection h with h1 h2;exact ⟨h1,h2⟩
    clear hA0
    have OX:=zH ox
    have NX:=zH (leastL_next hx HF.out)
    have hxl:=HWL.out x (List.mem_of_getElem? hx)
    have kn:(k:Int) < (M:Int):=by omega
    clear hx ox
    go_wp2_with fail
    refine (i_GateCost D x.length d x _ (RdG.own OX.out) (by omega)).mono ?_
    rintro e w2 ⟨rfl,b2⟩
    have O2:=zH (ownsRow_below O1.out b2)
    have W2:=zH (W1.out.below b2)
    have B2:=zH (B1.out.trans (b2.mono B1.out.size))
    have OX2:=zH (ownsRow_below OX.out b2)
    have y2:=(b2.cell (p:=⟨bq,oq+k,none⟩) hbl2).trans y0
    have hbl3:bq < w2.heap.size:=Nat.lt_of_lt_of_le hbl2 b2.size
    clear b2 O1 W1 B1 OX y0
    go_wp2_with fail
    refine (i_GateCost A1 b.length c1 b _ (RdG.own O2.out) (by omega)).mono ?_
    rintro e w3 ⟨rfl,b3⟩
    have O3:=zH (ownsRow_below O2.out b3)
    have W3:=zH (W2.out.below b3)
    have B3:=zH (B2.out.trans (b3.mono B2.out.size))
    have OX3:=zH (ownsRow_below OX2.out b3)
    have y3:=(b3.cell (p:=⟨bq,oq+k,none⟩) hbl3).trans y2
    clear b3 O2 W2 B2 OX2 y2
    by_cases hc:cost x < cost b
    ·have HN2:=zH (show leastL ((WS).drop (k+1)) x=F by have:=NX.out;rwa [if_pos hc] at this)
     have hcb:decide (cost x < cost b)=true:=decide_eq_true hc
     go_wp2_with fail
     go_roundg (gk - 1)
     all_goals first
      |omega
      |exact ⟨k+1,D,d,x,by omega,by go_num,rfl,HN2.out,hxl,OX3.out,W3.out,B3.out⟩
    ·have HN2:=zH (show leastL ((WS).drop (k+1)) b=F by have:=NX.out;rwa [if_neg hc] at this)
     have hcb:decide (cost x < cost b)=false:=decide_eq_false hc
     go_wp2_with fail
     go_roundg (gk - 1)
     all_goals first
      |omega
      |exact ⟨k+1,A1,c1,b,by omega,by go_num,rfl,HN2.out,hbl,O3.out,W3.out,B3.out⟩
   ·obtain rfl:k=M:=by omega
    have HE:=zH (leastL_end (by rw [W1.out.1];exact zR) HF.out)
    go_wp2_with fail
    go_ret
    rw [<- HE.out]
    exact ⟨A1,c1,rfl,O1.out,B1.out⟩
end Go.Proofs.YtmenmibfkojnoaaGreat
