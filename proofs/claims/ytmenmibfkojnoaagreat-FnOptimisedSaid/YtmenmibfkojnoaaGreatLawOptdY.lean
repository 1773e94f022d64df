/- The law FnOptimised returns true for every code. No condition. -/
import Derived.Test.YtmenmibfkojnoaaGreatOptBY
import Derived.Test.YtmenmibfkojnoaaGreatY54
import Derived.Test.YtmenmibfkojnoaaGreatRows
set_option maxHeartbeats 16000000
set_option maxRecDepth 100000
namespace Go.Proofs.YtmenmibfkojnoaaGreat.fnOptimised
open Go.ChangeShapes Go.WideShapes Go.ChangeAt Go.RowKit
set_option linter.unusedVariables false
theorem l_apartG (q k0:Nat) (Ua Ub:Nat->List Dw) (A:Option Addr) (n ca:Nat) (a:List Gt) (B:Option Addr) (m cb:Nat) (b:List Gt) (w:World) (hq:1<=q/\q<=4) (ha:RdG w A n a) (hb:RdG w B m b) (hn:n<=1048576) (hm:m<=1048576) (hs:nk a b q k0 Ua Ub):Calls Tryz.prog 26 #[.slice A n ca,.slice B m cb,q] w fun e w'=>e=.returned (.tuple #[k0,.bool true])/\Below w w w':=by
 obtain rfl | rfl | rfl | rfl:q=1\/q=2\/q=3\/q=4:=zO
 ·exact FA k0 Ua Ub A n ca a B m cb b w ha hb hn hm hs
 ·exact FB k0 Ua Ub A n ca a B m cb b w ha hb hn hm hs
 ·exact FC k0 Ua Ub A n ca a B m cb b w ha hb hn hm hs
 ·exact FD k0 Ua Ub A n ca a B m cb b w ha hb hn hm hs
theorem tq_split:∀ l:List Gt,(tq l:Int)=dK l+c3 l
 |[]=>rfl
 |g :: r=>by
  have:=tq_split r;rw [pK,tq];show _=_+(((if g.k=12 then 1 else 0)+c3 r:Nat):Int);by_cases h1:g.k=7\/g.k=8
  ·rw [if_pos zO,if_pos h1,if_neg zO];omega
  ·rw [if_neg h1];by_cases h2:g.k=12
   ·rw [if_pos zO,if_pos h2];omega
   ·rw [if_neg zO,if_neg h2];omega
theorem opt_nil (n:Int):qU [] n=[]:=by
 have h:jk n ((aR []).toNat+1) []=[]:=FJ (show aR []<=_ from (nR _).1) _;unfold qU;split
 ·exact h
 ·rfl
theorem walk (A:Option Addr) (n cap:Nat) (zs:List Int) (w:World) (h:zs.length=n/\Rd w 1 A n (zs.map (Value.int .u8))) (hnc:n<=cap) (hc:cap<=maxLen) (ok:∀ z ∈ zs,0<=z/\z<=255) :
  Calls Tryz.prog 7 #[.slice A n cap] w fun e w'=>e=.returned (.bool true)/\Below w w w':=by
 unfold maxLen at hc;have H:Hid (RdB w A n zs):=h;have OK:=zH ok;clear h ok;by_cases hn:1048576 < n
 ·go_enter Tryz.func7,Tryz.ntmps7;go_wp2_with fail;refine (PI _ _ _ _ zO).mono ?_;rintro e w1 ⟨rfl,rfl⟩;rw [decide_eq_true hn];go_wp2_with fail;go_ret;exact ⟨rfl,zW⟩
 ·go_enter Tryz.func7,Tryz.ntmps7;go_wp2_with fail;refine (PI _ _ _ _ zO).mono ?_;rintro e w1 ⟨rfl,rfl⟩;rw [decide_eq_false hn];go_wp2_with fail;refine (Ck _ _ _ _ _ H OK zO).mono ?_;rintro e w1 ⟨A1,m,c1,l,N,rfl,hlm,hm64,hq,o1,b1⟩;have R1:=zH (show RdG w1 A1 m l by rw [<- hlm] at o1 ⊢;exact RdG.own o1);have B1:=zH b1;have HQ:=zH hq;have HLM:=zH hlm;obtain ⟨o,ho⟩:∃ x,qU l N=x:=⟨_,rfl⟩;obtain ⟨L,hL⟩:∃ L,L=o.length:=⟨_,rfl⟩;have hlen:L<=64000:=by have h1:=Pz l N;have h2:=nR l;rw [ho] at h1;omega
  have HO:=zH ho;have HN:=zH hL;clear o1 b1 ho hL hlm hq;go_wp2_with fail;refine (VT N m c1 A1 l _ R1 zO).mono ?_;rintro e w2 ⟨A2,c2,rfl,o2,b2⟩;rw [HO.out] at o2 ⊢;rw [<- HN.out] at o2 ⊢;have Q2:=zH (show RdG w2 A2 L o by rw [HN.out] at o2 ⊢;exact RdG.own o2);have R2:=zH (R1.below b2);have B2:=zH (aa B1 b2);clear o2 b2 R1 B1;go_wp2_with fail;refine (VS N m c1 A1 l _ R2 zO).mono ?_;rintro e w3 ⟨A3,c3',rfl,o3,b3⟩;rw [HO.out] at o3 ⊢;rw [<- HN.out] at o3 ⊢;have P3:=zH (show RdG w3 A3 L o by rw [HN.out] at o3 ⊢;exact RdG.own o3);have Q3:=zH (Q2.below b3);have R3:=zH (R2.below b3);have B3:=zH (aa B2 b3);clear o3 b3 R2 B2 Q2;go_wp2_with fail;refine (gM _ _ _ _ _ o _ Q3 P3 zO).mono ?_;rintro e w4 ⟨rfl,b4⟩;have Q4:=zH (Q3.below b4);have R4:=zH (R3.below b4);have B4:=zH (aa B3 b4);clear b4 R3 B3 Q3 P3;go_wp2_with fail
  go_loopg [6] m (fun r i wr=>∃ k:Nat,k+r=m/\i=.int .i64 k/\(∀ g ∈ l.take k,fJ g.k g.a g.b g.c N=true)/\Below w4 w4 wr)
  case atStart=>exact ⟨0,zO,rfl,zI,zW⟩
  case round =>
   obtain ⟨k,hk,rfl,hv,hb⟩:=hrel;have HV:=zH hv;clear hv;by_cases hlt:k < m
   ·obtain ⟨b,off,g,rfl,hB,hd,p0,p1,p2,p3⟩:=(R4.below hb).at_ hlt;obtain ⟨vg,hvg⟩:∃ x,fJ g.k g.a g.b g.c N=x:=⟨_,rfl⟩;have HG:=zH hvg;have HT:=zH (eZ hd);have HD:=zH hd;clear hd hvg;have hi0:(0:Int)<=(k:Int):=zO;have hi1:(k:Int) < (m:Int):=zO;go_wp2_with fail;refine (aY g.k g.a g.b g.c N _).mono ?_;rintro e w5 ⟨rfl,b5⟩;rw [HG.out];have hb2:=hb.trans (b5.mono hb.size);clear hb b5 p0 p1 p2 p3;cases vg
    ·have e:o=l:=by
      rw [<- HO.out];unfold qU;rw [if_neg];intro hall;have:=List.all_eq_true.1 hall g (List.mem_of_mem_drop (i:=k) (by rw [HD.out];simp));rw [HG.out] at this;cases this
     have e2:L=m:=by rw [HN.out,e,HLM.out]
     have Q5:=zH (show RdG w5 A2 m l by have:=Q4.below hb2;rwa [e,e2] at this);have R5:=zH (R4.below hb2);have B5:=zH (aa B4 hb2);subst e2;clear e hb2 Q4 R4 B4 HD HT HV hk hlen;go_wp2_with fail;refine (gM _ _ _ _ _ l _ Q5 R5 zO).mono ?_;rintro e w6 ⟨rfl,b6⟩;go_wp2_with fail;go_ret;exact ⟨rfl,aa B5 b6⟩
    ·go_wp2_with fail;go_roundg (gk - 1)
     case measure=>omega
     case rel =>
      refine ⟨k+1,zO,by go_num,fun x hx=>?_,hb2⟩;rw [HT.out] at hx;rcases List.mem_append.1 hx with hx | hx
      ·exact HV.out x hx
      ·rw [List.mem_singleton.1 hx];exact HG.out
   ·have hall:∀ g ∈ l,fJ g.k g.a g.b g.c N=true:=by
     have e:l.take k=l:=List.take_of_length_le (by rw [HLM.out];omega);have:=HV.out;rwa [e] at this
    by_cases hN:1<=N/\N<=4
    ·obtain ⟨q,rfl⟩:∃ q:Nat,N=(q:Int):=⟨N.toNat,zO⟩;have hq:1<=q/\q<=4:=zO;obtain ⟨x1,x2,j,Ua,Ub,x3⟩:=Px (n:=q) hq hall (by rw [HLM.out];exact hm64) (by have:=tq_split l;have:=HQ.out;omega);rw [HO.out] at x1 x2 x3;have AP:=zH x3;obtain ⟨T1,hT1⟩:∃ k,dK o=k:=⟨_,rfl⟩;obtain ⟨T2,hT2⟩:∃ k,dK l=k:=⟨_,rfl⟩;obtain ⟨C1,hC1⟩:∃ k,aR o=k:=⟨_,rfl⟩;obtain ⟨C2,hC2⟩:∃ k,aR l=k:=⟨_,rfl⟩;rw [hC1,hC2] at x1;rw [hT1,hT2] at x2;have HT1:=zH hT1;have HT2:=zH hT2;have HC1:=zH hC1;have HC2:=zH hC2;have Q5:=zH (Q4.below hb);have R5:=zH (R4.below hb);have B5:=zH (aa B4 hb);clear hb Q4 R4 B4 hall hT1 hT2 hC1 hC2 x3;go_wp2_with fail;refine (l_apartG q j _ _ _ m _ l _ L _ o _ hq R5 Q5 zO zO AP).mono ?_;rintro e w6 ⟨rfl,b6⟩;have Q6:=zH (Q5.below b6);have R6:=zH (R5.below b6);have B6:=zH (aa B5 b6);clear b6 Q5 R5 B5 AP;go_wp2_with fail;refine (gK _ _ _ o _ Q6 zO).mono ?_
     rintro e w7 ⟨rfl,b7⟩;rw [HC1.out];have Q7:=zH (Q6.below b7);have R7:=zH (R6.below b7);have B7:=zH (aa B6 b7);clear b7 R6 B6 Q6;go_wp2_with fail;refine (gK _ _ _ l _ R7 zO).mono ?_;rintro e w8 ⟨rfl,b8⟩;rw [HC2.out];have Q8:=zH (Q7.below b8);have R8:=zH (R7.below b8);have B8:=zH (aa B7 b8);clear b8 R7 B7 Q7;go_wp2_with fail;refine (zg _ _ _ o _ Q8 zO).mono ?_;rintro e w9 ⟨rfl,b9⟩;rw [HT1.out];have R9:=zH (R8.below b9);have B9:=zH (aa B8 b9);clear b9 R8 B8 Q8;go_wp2_with fail;refine (zg _ _ _ l _ R9 zO).mono ?_;rintro e w10 ⟨rfl,b10⟩;rw [HT2.out];go_wp2_with fail;go_ret;exact ⟨aw zS,aa B9 b10⟩
    ·have hl0:l=[]:=by
      cases l with
      |nil=>rfl
      |cons g r =>
       have:=hall g zI;unfold fJ at this;rw [Bool.and_eq_true] at this;have:=inB_iff.1 this.1;omega
     have hL0:L=0:=by rw [HN.out,<- HO.out,hl0,opt_nil];rfl
     subst hL0;clear hall hl0;have B5:=zH (aa B4 hb);clear hb Q4 R4 B4;go_wp2_with fail
     all_goals go_ret
     all_goals exact ⟨rfl,B5.out⟩
theorem own:ownKnob Tryz.prog.godebug=none:=zK
theorem laidOut:laidOutB Tryz.prog=true:=zK
theorem lifted (os:Os) (started:os.Started) (H:Type) (enc:TypeId × Value->H) :
  ReturnsInHanded {} Tryz.checked os 7 .any (Rows.fnOptimisedSpec.pre6 enc Tryz.prog Tryz.f7 Rows.fnOptimisedRow.domain false) (Rows.fnOptimisedSpec.post enc Tryz.prog Tryz.f7 false true false false):=by
 refine returnsInHanded_of_change (C:=Tryz.checked) own started zK Tryz.func7
  (ChangeSpec.witness6 (enc:=enc) (C:=Tryz.checked) false ⟨#[],#[.slice none 0 0],[]⟩ 8 zK zK zK zK) ?_
 intro W base args ds gs before hval0 hW hcnd _;have hval:∀ (j:Nat) t v,Tryz.f7.params[j]? = some t->args[j]? = some v->Value.okWide Tryz.prog W .any base t v:=hval0;have hW':=hW;obtain ⟨p,q,hA0,hV,rfl,hfz,hnd⟩:=hW;have hA:DataW.TrodAll enc Tryz.prog W 0 (fun _=>true) true Tryz.f7.params.toList args.toList ds p:=hA0;rw [Tryz.params7] at hA hval;obtain ⟨v0,vs0,d0,ds0,p0,q0,hargs,rfl,rfl,h0,t0⟩:=trodAll_cons hA;obtain ⟨rfl,rfl,rfl⟩:=trodAll_nil t0;obtain rfl:args = #[v0]:=by cases args;simp_all
 obtain ⟨rfl,rfl⟩:=trodVars_none hV;have k0:=h0;have lt0:∀ x ∈ p0,x.block < W.heap.size:=by obtain ⟨m,hm⟩:=k0;exact DataW.trod_lt m _ _ _ hm
 obtain ⟨A0,n0,c0,rfl⟩:=okWide_slice Tryz.underlying30 (hval 0 30 v0 rfl rfl);obtain ⟨fu0,hf0⟩:=h0;obtain ⟨_,_,_,x0,e0,r0,l0,m0,ok0⟩:=Cc Tryz.underlying30 Tryz.underlying5 zK hf0;simp only [Value.slice.injEq] at e0;obtain ⟨rfl,rfl,rfl⟩:=e0;clear hA0 hval0;refine (walk A0 n0 c0 x0 W r0 l0 m0 ok0).mono fun e W' ⟨he,bel⟩=>?_
 subst he;exact ⟨_,rfl,_,_,_,[],_,[],hW',trodAll_mk1 (shut_bool Tryz.underlying4 _),(trodAll_cons_mk (Below.trod laidOut zK (of_decide_eq_true zK) k0 bel lt0) trodAll_mk0),rfl,bel.frame _,fun h=>by cases h⟩
theorem over:Rows.fnOptimisedRow.holds Tryz.pinned (OpenSpec.ofChange Rows.fnOptimisedSpec) :=
 OpenClaim.holds_of_wide 7 Tryz.f7 rfl rfl rfl rfl rfl rfl rfl ⟨rfl,rfl,rfl,rfl,rfl⟩ rfl rfl rfl rfl rfl zK Tryz.func7 zK
  (of_decide_eq_true zK) (by unfold Func.isWrapper;first | (rw [if_pos (by decide +kernel)];kernel_rfl) | (rw [if_neg (by decide +kernel)];exact ⟨rfl,rfl⟩))
  (fun os started H enc _=>lifted os started H enc)
theorem proved:Rows.FnOptimisedSaid:=over
#print axioms proved
end Go.Proofs.YtmenmibfkojnoaaGreat.fnOptimised
