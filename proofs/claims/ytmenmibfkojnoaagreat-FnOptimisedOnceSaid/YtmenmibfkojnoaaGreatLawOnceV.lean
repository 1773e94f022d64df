/- The law FnOptimisedOnce returns true for every code. No condition. -/
import Derived.Test.YtmenmibfkojnoaaGreatOptDV
import Derived.Test.YtmenmibfkojnoaaGreatOptBV
import Derived.Test.YtmenmibfkojnoaaGreatSameGV
import Derived.Test.YtmenmibfkojnoaaGreatV31
import Derived.Test.YtmenmibfkojnoaaGreatRows
import Derived.ChangeOld
set_option maxHeartbeats 16000000
namespace Go.Proofs.YtmenmibfkojnoaaGreat.fnOptimisedOnce
open Go.ChangeShapes Go.WideShapes Go.ChangeAt Go.RowKit
set_option linter.unusedVariables false
set_option maxRecDepth 100000 in
theorem walk (A:Option Addr) (n cap:Nat) (zs:List Int) (w:World) (h:zs.length=n/\Rd w 1 A n (zs.map (Value.int .u8))) (hnc:n<=cap) (hc:cap<=maxLen) (ok:∀ z ∈ zs,0<=z/\z<=255) :
  Calls Tryz.prog 6 #[.slice A n cap] w fun e w'=>e=.returned (.bool true)/\Below w.heap.size w w':=by
 unfold maxLen at hc
 have H:Hid (RdB w A n zs):=h
 have OK:=zH ok
 clear h ok
 by_cases hn:1048576 < n
 ·go_enter Tryz.func6,Tryz.ntmps6
  go_wp2_with fail
  refine (l_big _ _ _ _ (by omega)).mono ?_
  rintro e w1 ⟨rfl,rfl⟩
  rw [decide_eq_true hn]
  go_wp2_with fail
  go_ret
  exact ⟨rfl,zW⟩
 ·go_enter Tryz.func6,Tryz.ntmps6
  go_wp2_with fail
  refine (l_big _ _ _ _ (by omega)).mono ?_
  rintro e w1 ⟨rfl,rfl⟩
  rw [decide_eq_false hn]
  go_wp2_with fail
  refine (s_DrawOptimizeGates _ _ _ _ _ H.out OK.out (by omega)).mono ?_
  rintro e w1 ⟨A1,m,c1,l,N,rfl,hlm,hm64,o1,b1⟩
  subst hlm
  have R1:=zH (RdG.own o1)
  have B1:=zH b1
  obtain ⟨o,ho⟩:∃ x,opt l N=x:=⟨_,rfl⟩
  obtain ⟨L,hL⟩:∃ L,L=o.length:=⟨_,rfl⟩
  have hlen:L<=64000:=by have h1:=opt_len l N;have h2:=cost_bd l;rw [ho] at h1;omega
  have HS:=zH (show opt o N=o by rw [<- ho];exact opt_once l N)
  have HO:=zH ho
  have HN:=zH hL
  clear o1 b1 ho hL
  go_wp2_with fail
  refine (i_Opt N l.length c1 A1 l _ R1.out (by omega)).mono ?_
  rintro e w2 ⟨A2,c2,rfl,o2,b2⟩
  rw [HO.out] at o2 ⊢
  rw [<- HN.out] at o2 ⊢
  have Q2:=zH (show RdG w2 A2 L o by rw [HN.out] at o2 ⊢;exact RdG.own o2)
  have R2:=zH (R1.out.below b2)
  have B2:=zH (below_trans B1.out b2)
  clear o2 b2 R1 B1
  go_wp2_with fail
  refine (s_Opt N l.length c1 A1 l _ R2.out (by omega)).mono ?_
  rintro e w3 ⟨A3,c3,rfl,o3,b3⟩
  rw [HO.out] at o3 ⊢
  rw [<- HN.out] at o3 ⊢
  have P3:=zH (show RdG w3 A3 L o by rw [HN.out] at o3 ⊢;exact RdG.own o3)
  have Q3:=zH (Q2.out.below b3)
  have B3:=zH (below_trans B2.out b3)
  clear o3 b3 R2 B2 Q2
  go_wp2_with fail
  refine (l_sameGates_same _ _ _ _ _ o _ Q3.out P3.out (by omega)).mono ?_
  rintro e w4 ⟨rfl,b4⟩
  have Q4:=zH (Q3.out.below b4)
  have B4:=zH (below_trans B3.out b4)
  clear b4 B3 Q3 P3
  go_wp2_with fail
  refine (i_Opt N L c2 A2 o _ Q4.out (by omega)).mono ?_
  rintro e w5 ⟨A5,c5,rfl,o5,b5⟩
  rw [HS.out] at o5 ⊢
  rw [<- HN.out] at o5 ⊢
  have P5:=zH (show RdG w5 A5 L o by rw [HN.out] at o5 ⊢;exact RdG.own o5)
  have Q5:=zH (Q4.out.below b5)
  have B5:=zH (below_trans B4.out b5)
  clear o5 b5 B4 Q4
  go_wp2_with fail
  refine (l_sameGates_same _ _ _ _ _ o _ P5.out Q5.out (by omega)).mono ?_
  rintro e w6 ⟨rfl,b6⟩
  go_wp2_with fail
  go_ret
  exact ⟨rfl,below_trans B5.out b6⟩
theorem own:ownKnob Tryz.prog.godebug=none:=by kernel_rfl
theorem laidOut:laidOutB Tryz.prog=true:=by kernel_rfl
set_option maxRecDepth 100000 in
theorem lifted (os:Os) (started:os.Started) (H:Type) (enc:TypeId × Value->H) :
  ReturnsInHanded {} Tryz.checked os 6 .any (Rows.fnOptimisedOnceSpec.pre6 enc Tryz.prog Tryz.f6 Rows.fnOptimisedOnceRow.domain false) (Rows.fnOptimisedOnceSpec.post enc Tryz.prog Tryz.f6 false true false false):=by
 refine returnsInHanded_of_change (C:=Tryz.checked) own started (by kernel_rfl) Tryz.func6
  (ChangeSpec.witness6 (enc:=enc) (C:=Tryz.checked) false ⟨#[],#[.slice none 0 0],[]⟩ 8 (by kernel_rfl) (by kernel_rfl) (by kernel_rfl) (by kernel_rfl)) ?_
 intro W base args ds gs before hval0 hW hcnd _
 have hval:∀ (j:Nat) t v,Tryz.f6.params[j]? = some t->args[j]? = some v->Value.okWide Tryz.prog W .any base t v:=hval0
 have hW':=hW
 obtain ⟨p,q,hA0,hV,rfl,hfz,hnd⟩:=hW
 have hA:DataW.TrodAll enc Tryz.prog W 0 (fun _=>true) true Tryz.f6.params.toList args.toList ds p:=hA0
 rw [Tryz.params6] at hA hval
 obtain ⟨v0,vs0,d0,ds0,p0,q0,hargs,rfl,rfl,h0,t0⟩:=trodAll_cons hA
 obtain ⟨rfl,rfl,rfl⟩:=trodAll_nil t0
 obtain rfl:args = #[v0]:=by cases args;simp_all
 obtain ⟨rfl,rfl⟩:=trodVars_none hV
 have k0:=h0
 have lt0:∀ x ∈ p0,x.block < W.heap.size:=by obtain ⟨m,hm⟩:=k0;exact DataW.trod_lt m _ _ _ hm
 obtain ⟨A0,n0,c0,rfl⟩:=okWide_slice Tryz.underlying30 (hval 0 30 v0 rfl rfl)
 obtain ⟨fu0,hf0⟩:=h0
 obtain ⟨_,_,_,x0,e0,r0,l0,m0,ok0⟩:=open_bytes Tryz.underlying30 Tryz.underlying5 (by kernel_rfl) hf0
 simp only [Value.slice.injEq] at e0
 obtain ⟨rfl,rfl,rfl⟩:=e0
 clear hA0 hval0
 refine (walk A0 n0 c0 x0 W r0 l0 m0 ok0).mono fun e W' ⟨he,bel⟩=>?_
 subst he
 exact ⟨_,rfl,_,_,_,[],_,[],hW',trodAll_mk1 (shut_bool Tryz.underlying4 _),(trodAll_cons_mk (Below.trod laidOut (by kernel_rfl) (of_decide_eq_true (by kernel_rfl)) k0 bel lt0) trodAll_mk0),rfl,bel.frame _,fun h=>by cases h⟩
theorem over:Rows.fnOptimisedOnceRow.holds Tryz.pinned (OpenSpec.ofChange Rows.fnOptimisedOnceSpec) :=
 OpenClaim.holds_of_wide 6 Tryz.f6 rfl rfl rfl rfl rfl rfl rfl ⟨rfl,rfl,rfl,rfl,rfl⟩ rfl rfl rfl rfl rfl (by kernel_rfl) Tryz.func6 (by kernel_rfl)
  (of_decide_eq_true (by kernel_rfl)) (by unfold Func.isWrapper;first | (rw [if_pos (by decide +kernel)];kernel_rfl) | (rw [if_neg (by decide +kernel)];exact ⟨rfl,rfl⟩))
  (fun os started H enc _=>lifted os started H enc)
theorem proved:Rows.FnOptimisedOnceSaid:=over
#print axioms proved
end Go.Proofs.YtmenmibfkojnoaaGreat.fnOptimisedOnce
