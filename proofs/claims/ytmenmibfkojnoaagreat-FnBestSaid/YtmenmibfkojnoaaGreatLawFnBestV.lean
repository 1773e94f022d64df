/- The law FnBest returns true for every code. No condition. -/
import Derived.Test.YtmenmibfkojnoaaGreatOptDV
import Derived.Test.YtmenmibfkojnoaaGreatV52
import Derived.Test.YtmenmibfkojnoaaGreatSameGV
import Derived.Test.YtmenmibfkojnoaaGreatV31
import Derived.Test.YtmenmibfkojnoaaGreatRows
import Derived.ChangeOld
set_option maxHeartbeats 16000000
namespace Go.Proofs.YtmenmibfkojnoaaGreat.fnBest
open Go.ChangeShapes Go.WideShapes Go.ChangeAt Go.RowKit
set_option linter.unusedVariables false
set_option maxRecDepth 100000 in
theorem walk (A:Option Addr) (n cap:Nat) (zs:List Int) (w:World) (h:zs.length=n/\Rd w 1 A n (zs.map (Value.int .u8))) (hnc:n<=cap) (hc:cap<=maxLen) (ok:∀ z ∈ zs,0<=z/\z<=255) :
  Calls Tryz.prog 5 #[.slice A n cap] w fun e w'=>e=.returned (.bool true)/\Below w.heap.size w w':=by
 unfold maxLen at hc
 have H:Hid (RdB w A n zs):=h
 have OK:=zH ok
 clear h ok
 by_cases hn:1048576 < n
 ·go_enter Tryz.func5,Tryz.ntmps5
  go_wp2_with fail
  refine (l_big _ _ _ _ (by omega)).mono ?_
  rintro e w1 ⟨rfl,rfl⟩
  rw [decide_eq_true hn]
  go_wp2_with fail
  go_ret
  exact ⟨rfl,zW⟩
 ·go_enter Tryz.func5,Tryz.ntmps5
  go_wp2_with fail
  refine (l_big _ _ _ _ (by omega)).mono ?_
  rintro e w1 ⟨rfl,rfl⟩
  rw [decide_eq_false hn]
  go_wp2_with fail
  refine (s_DrawBestRewrite _ _ _ _ _ H.out OK.out (by omega)).mono ?_
  rintro e w1 ⟨A1,m,c1,l,N,rfl,hlm,hm64,o1,b1⟩
  subst hlm
  have R1:=zH (RdG.own o1)
  have B1:=zH b1
  obtain ⟨h1,h2,h3,h4⟩:=best_law l N
  have hbl:=(best_len l N).1
  have hcl:=cost_bd l
  have hfl:=foldAllP_len l N
  have hsl:=shortRs_len l N
  have hpl:=peepL_len0 l
  have hpf:=peepL_len0 (foldAllP l N).1
  have hps:=peepL_len0 (shortRs l N)
  obtain ⟨o,ho⟩:∃ x,best l N=x:=⟨_,rfl⟩
  obtain ⟨f,hf⟩:∃ x,foldAllP l N=x:=⟨_,rfl⟩
  rw [ho] at h1 h2 h3 h4 hbl
  rw [hf] at h3 hfl hpf
  have HLEN:=zH (show o.length<=64000/\f.1.length<=100000/\(shortRs l N).length<=100000/\(peepL l).length<=100000/\(peepL f.1).length<=100000/\(peepL (shortRs l N)).length<=100000 by omega)
  obtain ⟨g1,g2,g3,g4,g5,g6⟩:=HLEN.out
  have D1:=zH (decide_eq_true h1)
  have D2:=zH (decide_eq_true h2)
  have D3:=zH (decide_eq_true h3)
  have D4:=zH (decide_eq_true h4)
  have HO:=zH ho
  have HF:=zH hf
  clear o1 b1 ho hf h1 h2 h3 h4 hbl hcl hfl hsl hpl hpf hps
  go_wp2_with fail
  refine (i_Best N l.length c1 A1 l _ R1.out (by omega)).mono ?_
  rintro e w2 ⟨A2,c2,rfl,o2,b2⟩
  rw [HO.out] at o2 ⊢
  have Q2:=zH (RdG.own o2)
  have R2:=zH (R1.out.below b2)
  have B2:=zH (below_trans B1.out b2)
  clear o2 b2 R1 B1
  go_wp2_with fail
  refine (s_Best N l.length c1 A1 l _ R2.out (by omega)).mono ?_
  rintro e w3 ⟨A3,c3,rfl,o3,b3⟩
  rw [HO.out] at o3 ⊢
  have P3:=zH (RdG.own o3)
  have Q3:=zH (Q2.out.below b3)
  have R3:=zH (R2.out.below b3)
  have B3:=zH (below_trans B2.out b3)
  clear o3 b3 R2 B2 Q2
  go_wp2_with fail
  refine (l_sameGates_same _ _ _ _ _ o _ Q3.out P3.out (by omega)).mono ?_
  rintro e w4 ⟨rfl,b4⟩
  have Q4:=zH (Q3.out.below b4)
  have R4:=zH (R3.out.below b4)
  have B4:=zH (below_trans B3.out b4)
  clear b4 R3 B3 Q3 P3
  go_wp2_with fail
  refine (i_FoldAllP A1 l.length c1 l N _ R4.out (by omega)).mono ?_
  rintro e w5 ⟨A5,c5,rfl,o5,b5⟩
  rw [HF.out] at o5 ⊢
  have F5:=zH (RdG.own o5)
  have Q5:=zH (Q4.out.below b5)
  have R5:=zH (R4.out.below b5)
  have B5:=zH (below_trans B4.out b5)
  clear o5 b5 R4 B4 Q4
  go_wp2_with fail
  refine (i_GateCost A2 o.length c2 o _ Q5.out (by omega)).mono ?_
  rintro e w6 ⟨rfl,b6⟩
  have F6:=zH (F5.out.below b6)
  have R6:=zH (R5.out.below b6)
  have B6:=zH (below_trans B5.out b6)
  clear b6 F5 R5 B5 Q5
  go_wp2_with fail
  refine (i_GateCost A1 l.length c1 l _ R6.out (by omega)).mono ?_
  rintro e w7 ⟨rfl,b7⟩
  have F7:=zH (F6.out.below b7)
  have R7:=zH (R6.out.below b7)
  have B7:=zH (below_trans B6.out b7)
  have d1:=D1.out
  clear b7 F6 R6 B6
  go_wp2_with fail
  refine (i_Peephole A1 l.length c1 l _ R7.out (by omega)).mono ?_
  rintro e w8 ⟨A8,c8,rfl,o8,b8⟩
  have P8:=zH (RdG.own o8)
  have F8:=zH (F7.out.below b8)
  have R8:=zH (R7.out.below b8)
  have B8:=zH (below_trans B7.out b8)
  clear o8 b8 F7 R7 B7
  go_wp2_with fail
  refine (i_GateCost A8 (peepL l).length c8 (peepL l) _ P8.out (by omega)).mono ?_
  rintro e w9 ⟨rfl,b9⟩
  have F9:=zH (F8.out.below b9)
  have R9:=zH (R8.out.below b9)
  have B9:=zH (below_trans B8.out b9)
  have d2:=D2.out
  clear b9 F8 R8 B8 P8
  go_wp2_with fail
  refine (i_Peephole A5 f.1.length c5 f.1 _ F9.out (by omega)).mono ?_
  rintro e wa ⟨Aa,ca,rfl,oa,ba⟩
  have PA:=zH (RdG.own oa)
  have RA:=zH (R9.out.below ba)
  have BA:=zH (below_trans B9.out ba)
  clear oa ba F9 R9 B9
  go_wp2_with fail
  refine (i_GateCost Aa (peepL f.1).length ca (peepL f.1) _ PA.out (by omega)).mono ?_
  rintro e wb ⟨rfl,bb⟩
  have RB:=zH (RA.out.below bb)
  have BB:=zH (below_trans BA.out bb)
  have d3:=D3.out
  clear bb PA RA BA
  go_wp2_with fail
  refine (i_ShortRs N l.length c1 A1 l _ RB.out (by omega)).mono ?_
  rintro e wc ⟨Ac,cc,rfl,oc,bc⟩
  have SC:=zH (RdG.own oc)
  have BC:=zH (below_trans BB.out bc)
  clear oc bc RB BB
  go_wp2_with fail
  refine (i_Peephole Ac (shortRs l N).length cc (shortRs l N) _ SC.out (by omega)).mono ?_
  rintro e wd ⟨Ad,cd,rfl,od,bd⟩
  have PD:=zH (RdG.own od)
  have BD:=zH (below_trans BC.out bd)
  clear od bd SC BC
  go_wp2_with fail
  refine (i_GateCost Ad (peepL (shortRs l N)).length cd (peepL (shortRs l N)) _ PD.out (by omega)).mono ?_
  rintro e we ⟨rfl,be⟩
  have d4:=D4.out
  have FIN:=zH (below_trans BD.out be)
  clear be
  go_wp2_with fail
  go_ret
  exact ⟨by first | rfl | (rw [d4]) | simp [d4],FIN.out⟩
theorem own:ownKnob Tryz.prog.godebug=none:=by kernel_rfl
theorem laidOut:laidOutB Tryz.prog=true:=by kernel_rfl
set_option maxRecDepth 100000 in
theorem lifted (os:Os) (started:os.Started) (H:Type) (enc:TypeId × Value->H) :
  ReturnsInHanded {} Tryz.checked os 5 .any (Rows.fnBestSpec.pre6 enc Tryz.prog Tryz.f5 Rows.fnBestRow.domain false) (Rows.fnBestSpec.post enc Tryz.prog Tryz.f5 false true false false):=by
 refine returnsInHanded_of_change (C:=Tryz.checked) own started (by kernel_rfl) Tryz.func5
  (ChangeSpec.witness6 (enc:=enc) (C:=Tryz.checked) false ⟨#[],#[.slice none 0 0],[]⟩ 8 (by kernel_rfl) (by kernel_rfl) (by kernel_rfl) (by kernel_rfl)) ?_
 intro W base args ds gs before hval0 hW hcnd _
 have hval:∀ (j:Nat) t v,Tryz.f5.params[j]? = some t->args[j]? = some v->Value.okWide Tryz.prog W .any base t v:=hval0
 have hW':=hW
 obtain ⟨p,q,hA0,hV,rfl,hfz,hnd⟩:=hW
 have hA:DataW.TrodAll enc Tryz.prog W 0 (fun _=>true) true Tryz.f5.params.toList args.toList ds p:=hA0
 rw [Tryz.params5] at hA hval
 obtain ⟨v0,vs0,d0,ds0,p0,q0,hargs,rfl,rfl,h0,t0⟩:=trodAll_cons hA
 obtain ⟨rfl,rfl,rfl⟩:=trodAll_nil t0
 obtain rfl:args = #[v0]:=by cases args;simp_all
 obtain ⟨rfl,rfl⟩:=trodVars_none hV
 have k0:=h0
 have lt0:∀ x ∈ p0,x.block < W.heap.size:=by obtain ⟨m,hm⟩:=k0;exact DataW.trod_lt m _ _ _ hm
 obtain ⟨A0,n0,c0,rfl⟩:=okWide_slice Tryz.underlying30 (hval 0 30 v0 rfl rfl)
 obtain ⟨fu0,hf0⟩:=h0
 obtain ⟨_,_,_,x0,e0,r0,l0,m0,ok0⟩:=open_bytes Tryz.underlying30 Tryz.underlying5 (by kernel_rfl) hf0
 simp only [Value.slice.injEq] at e0
 obtain ⟨rfl,rfl,rfl⟩:=e0
 clear hA0 hval0
 refine (walk A0 n0 c0 x0 W r0 l0 m0 ok0).mono fun e W' ⟨he,bel⟩=>?_
 subst he
 exact ⟨_,rfl,_,_,_,[],_,[],hW',trodAll_mk1 (shut_bool Tryz.underlying4 _),(trodAll_cons_mk (Below.trod laidOut (by kernel_rfl) (of_decide_eq_true (by kernel_rfl)) k0 bel lt0) trodAll_mk0),rfl,bel.frame _,fun h=>by cases h⟩
theorem over:Rows.fnBestRow.holds Tryz.pinned (OpenSpec.ofChange Rows.fnBestSpec) :=
 OpenClaim.holds_of_wide 5 Tryz.f5 rfl rfl rfl rfl rfl rfl rfl ⟨rfl,rfl,rfl,rfl,rfl⟩ rfl rfl rfl rfl rfl (by kernel_rfl) Tryz.func5 (by kernel_rfl)
  (of_decide_eq_true (by kernel_rfl)) (by unfold Func.isWrapper;first | (rw [if_pos (by decide +kernel)];kernel_rfl) | (rw [if_neg (by decide +kernel)];exact ⟨rfl,rfl⟩))
  (fun os started H enc _=>lifted os started H enc)
theorem proved:Rows.FnBestSaid:=over
#print axioms proved
end Go.Proofs.YtmenmibfkojnoaaGreat.fnBest
