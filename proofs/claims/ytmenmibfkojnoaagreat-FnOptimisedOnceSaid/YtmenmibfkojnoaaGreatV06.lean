/- Contracts of IsValidPauli, MulPauli, PaulisCommute, IsHermitianPauli (spec and impl), for valid operators on one to four qubits. Contracts of PaulisCommute (spec and impl), for valid operators on one to four qubits; l25Single. -/
import Derived.Test.YtmenmibfkojnoaaGreatV03
import Derived.Test.YtmenmibfkojnoaaGreatV05
import Derived.Test.YtmenmibfkojnoaaGreatV04
import Derived.StillTailTactics
import Derived.Deep.RegionHeld3
import Derived.Deep.RegionLaw
import Derived.Deep.DeepCutAuto
import Derived.BigQuiet
set_option maxHeartbeats 16000000
namespace Go.Proofs.YtmenmibfkojnoaaGreat
open Go.RowKit
set_option linter.unusedVariables false
def chkBt:Bool:=(List.range 16).all fun a=>(List.range 16).all fun b=>decide (bits .and .i64 (a:Int) (b:Int)=((a &&& b:Nat):Int)) && (decide (bits .xor .i64 (a:Int) (b:Int)=((a ^^^ b:Nat):Int)) && (decide (bits .or .i64 (a:Int) (b:Int)=((a ||| b:Nat):Int)) && decide (a &&& b < 16)))
theorem chkBt_t:chkBt=true:=by decide +kernel
theorem bt16 {a b:Nat} (ha:a < 16) (hb:b < 16):bits .and .i64 (a:Int) (b:Int)=((a &&& b:Nat):Int)/\bits .xor .i64 (a:Int) (b:Int)=((a ^^^ b:Nat):Int)/\bits .or .i64 (a:Int) (b:Int)=((a ||| b:Nat):Int)/\a &&& b < 16:=by
 have:=List.all_eq_true.1 (List.all_eq_true.1 chkBt_t a (List.mem_range.2 ha)) b (List.mem_range.2 hb)
 simp only [Bool.and_eq_true,decide_eq_true_eq] at this
 exact ⟨this.1,this.2.1,this.2.2.1,this.2.2.2⟩
def chkOn:Bool:=(List.range 16).all fun k=>decide (onesI (k:Int)=((popQ k:Nat):Int)) && ((List.range 4).all fun q=>(bits .and .i64 ((k:Int) / 2 ^ q) 1 == 1) == bitB k q)
theorem chkOn_t:chkOn=true:=by decide +kernel
theorem ones16 {k:Nat} (h:k < 16):onesI (k:Int)=((popQ k:Nat):Int):=by
 have:=List.all_eq_true.1 chkOn_t k (List.mem_range.2 h)
 simp only [Bool.and_eq_true,decide_eq_true_eq] at this
 exact this.1
theorem bitT {k q:Nat} (h:k < 16) (hq:q < 4):(bits .and .i64 ((k:Int) / 2 ^ q) 1 == 1)=bitB k q:=by
 have:=List.all_eq_true.1 chkOn_t k (List.mem_range.2 h)
 simp only [Bool.and_eq_true,decide_eq_true_eq] at this
 exact eq_of_beq (List.all_eq_true.1 this.2 q (List.mem_range.2 hq))
theorem popQ_bd (k:Nat):popQ k<=4:=by unfold popQ;omega
theorem okQ16 {n:Nat} {a:Pq} (hn:n<=4) (h:okQn n a=true):a.x < 16/\a.z < 16/\a.p < 4:=by
 obtain ⟨h1,h2,h3⟩:=okQn_iff.1 h
 have:2 ^ n<=2 ^ 4:=Nat.pow_le_pow_right (by omega) hn
 exact ⟨by omega,by omega,h3⟩
def QB (w:World) (g n:Nat) (a:Pq) (wx:World):Prop:=Bx wx g 151 #[.int .i64 (n:Nat),.int .i64 (a.x:Nat),.int .i64 (a.z:Nat),.int .i64 (a.p:Nat)]/\Below w.heap.size w wx/\w.heap.size<=g
section
variable {w wx w':World} {g n:Nat} {a:Pq}
theorem QB.below (h:QB w g n a wx) (hb:Below wx.heap.size wx w'):QB w g n a w':=⟨h.1.below hb,below_trans h.2.1 hb,h.2.2⟩
theorem QB.alloc (h:QB w g n a wx) (o:Obj):QB w g n a (wx.alloc o):=h.below ((zW).alloc zR _)
theorem QB.drew (h:QB w g n a wx):QB w g n a wx.drew:=h.below (zW).drew
end
abbrev S4 (wx:World) (r:Nat) (u0 u1 u2 u3:Value):World:=(((wx.setCell ⟨r,0,none⟩ u0).setCell ⟨r,1,none⟩ u1).setCell ⟨r,2,none⟩ u2).setCell ⟨r,3,none⟩ u3
theorem Bx.far4 {wx:World} {g r t:Nat} {cs:Array Value} (h:Bx wx g t cs) (hr:g ≠ r) (u0 u1 u2 u3:Value):Bx (S4 wx r u0 u1 u2 u3) g t cs:=(((h.far hr u0).far hr u1).far hr u2).far hr u3
theorem Bx.set4 {wx:World} {g t:Nat} {v0 v1 v2 v3:Value} (h:Bx wx g t #[v0,v1,v2,v3]) (u0 u1 u2 u3:Value):Bx (S4 wx g u0 u1 u2 u3) g t #[u0,u1,u2,u3]:=by
 have h0:Bx (wx.setCell ⟨g,0,none⟩ u0) g t #[u0,v1,v2,v3]:=by simpa using h.set_ 0 u0
 have h1:Bx ((wx.setCell ⟨g,0,none⟩ u0).setCell ⟨g,1,none⟩ u1) g t #[u0,u1,v2,v3]:=by simpa using h0.set_ 1 u1
 have h2:Bx (((wx.setCell ⟨g,0,none⟩ u0).setCell ⟨g,1,none⟩ u1).setCell ⟨g,2,none⟩ u2) g t #[u0,u1,u2,v3]:=by simpa using h1.set_ 2 u2
 simpa using h2.set_ 3 u3
theorem belowS4 {w wx:World} {r B:Nat} (h:Below B w wx) (hr:B<=r) (u0 u1 u2 u3:Value):Below B w (S4 wx r u0 u1 u2 u3):=(((h.setCell hr _).setCell hr _).setCell hr _).setCell hr _
theorem QB.set4 {w wx:World} {g n r:Nat} {a:Pq} (h:QB w g n a wx) (hr:g ≠ r) (hw:w.heap.size<=r) (u0 u1 u2 u3:Value):QB w g n a (S4 wx r u0 u1 u2 u3):=⟨h.1.far4 hr _ _ _ _,belowS4 h.2.1 hw _ _ _ _,h.2.2⟩
theorem QB.cells {w wx:World} {g n:Nat} {a:Pq} (h:QB w g n a wx):wx.cell? ⟨g,0,none⟩=some (.int .i64 (n:Nat))/\wx.cell? ⟨g,1,none⟩=some (.int .i64 (a.x:Nat))/\wx.cell? ⟨g,2,none⟩=some (.int .i64 (a.z:Nat))/\wx.cell? ⟨g,3,none⟩=some (.int .i64 (a.p:Nat)):=⟨h.1.cell 0,h.1.cell 1,h.1.cell 2,h.1.cell 3⟩
theorem shl_raw4:∀ n:Fin 5,IntKind.i64.wrap (2 ^ min (IntKind.u64.wrap ((n:Nat):Int)).toNat 64)=wrap64 (2 ^ (n:Nat))/\wrap64 (wrap64 (2 ^ (n:Nat)) - 1)=2 ^ (n:Nat) - 1/\IntKind.i64.wrap (IntKind.i64.wrap (2 ^ (n:Nat)) - 1)=2 ^ (n:Nat) - 1:=by decide +kernel
theorem top4 {n:Nat} (hn:n<=4) {k:Nat} (h:k < 2 ^ n):inB (k:Int) 0 (2 ^ n - 1)=true:=by
 have:((2 ^ n:Nat):Int)=2 ^ n:=by simp
 exact inB_t (by omega) (by omega)
set_option maxRecDepth 100000 in
theorem s_IsPau (n:Nat) (a:Pq) (w:World) (hn:1<=n/\n<=4) (h:okQn n a=true):Calls Tryz.prog 184 #[.agg #[.int .i64 (n:Nat),.int .i64 (a.x:Nat),.int .i64 (a.z:Nat),.int .i64 (a.p:Nat)]] w fun e w'=>e=.returned (.bool true)/\Below w.heap.size w w':=by
 obtain ⟨hx,hz,hp⟩:=okQn_iff.1 h
 have X0:=zH (Bx.new w 151 #[.int .i64 (n:Nat),.int .i64 (a.x:Nat),.int .i64 (a.z:Nat),.int .i64 (a.p:Nat)])
 have S1:=(shl_raw4 ⟨n,by omega⟩).1
 have S2:=(shl_raw4 ⟨n,by omega⟩).2.1
 have S3:=(shl_raw4 ⟨n,by omega⟩).2.2
 have I1:inB (n:Int) 1 4=true:=inB_t (by omega) (by omega)
 have I2:=top4 hn.2 hx
 have I3:=top4 hn.2 hz
 have I4:inB (a.p:Int) 0 3=true:=inB_t (by omega) (by omega)
 clear h hx hz
 obtain ⟨p0,p1,p2,p3,_⟩:=X0.out.four
 go_enter Tryz.func184,Tryz.ntmps184
 go_wp2_with fail
 refine (s_in _ _ _ _).mono ?_
 rintro e w1 ⟨rfl,rfl⟩
 rw [I1]
 go_wp2_with fail
 refine (s_in _ _ _ _).mono ?_
 rintro e w1 ⟨rfl,rfl⟩
 rw [I2]
 go_wp2_with fail
 refine (s_in _ _ _ _).mono ?_
 rintro e w1 ⟨rfl,rfl⟩
 rw [I3]
 go_wp2_with fail
 refine (s_in _ _ _ _).mono ?_
 rintro e w1 ⟨rfl,rfl⟩
 rw [I4]
 go_wp2_with fail
 go_ret
 exact ⟨rfl,(zW).alloc zR _⟩
set_option maxRecDepth 100000 in
theorem i_IsPau (n:Nat) (a:Pq) (w:World) (hn:1<=n/\n<=4) (h:okQn n a=true):Calls Tryz.prog 193 #[.agg #[.int .i64 (n:Nat),.int .i64 (a.x:Nat),.int .i64 (a.z:Nat),.int .i64 (a.p:Nat)]] w fun e w'=>e=.returned (.bool true)/\Below w.heap.size w w':=by
 obtain ⟨hx,hz,hp⟩:=okQn_iff.1 h
 have X0:=zH (Bx.new w 151 #[.int .i64 (n:Nat),.int .i64 (a.x:Nat),.int .i64 (a.z:Nat),.int .i64 (a.p:Nat)])
 have S1:=(shl_raw4 ⟨n,by omega⟩).1
 have S2:=(shl_raw4 ⟨n,by omega⟩).2.1
 have S3:=(shl_raw4 ⟨n,by omega⟩).2.2
 have I1:inB (n:Int) 1 4=true:=inB_t (by omega) (by omega)
 have I2:=top4 hn.2 hx
 have I3:=top4 hn.2 hz
 have I4:inB (a.p:Int) 0 3=true:=inB_t (by omega) (by omega)
 clear h hx hz
 obtain ⟨p0,p1,p2,p3,_⟩:=X0.out.four
 go_enter Tryz.func193,Tryz.ntmps193
 go_wp2_with fail
 have BB:=zH (show Below w.heap.size w (w.alloc (.cells #[.int .i64 (n:Nat),.int .i64 (a.x:Nat),.int .i64 (a.z:Nat),.int .i64 (a.p:Nat)] 151)) from (zW).alloc zR _)
 go_region_held3 (fun w'=>w'.cell? ⟨w.heap.size,0,none⟩=some (.int .i64 (n:Nat))/\w'.cell? ⟨w.heap.size,1,none⟩=some (.int .i64 (a.x:Nat))/\w'.cell? ⟨w.heap.size,2,none⟩=some (.int .i64 (a.z:Nat))/\w'.cell? ⟨w.heap.size,3,none⟩=some (.int .i64 (a.p:Nat)))
  (first | exact ⟨p0,p1,p2,p3⟩ | go_keep)
  (first
   |(go_at_call 70;refine (i_in _ _ _ _).mono ?_;rintro e w3 ⟨rfl,rfl⟩;first | rw [I1] | rw [I2] | rw [I3] | rw [I4])
   |fail)
 go_wp2_with fail
 go_ret
 exact ⟨rfl,below_drewN BB.out _⟩
theorem i64T {x:Int} (h0:0<=x) (h1:x < 1000):IntKind.i64.wrap x=x:=by rw [IntKind.wrap_i64];omega
theorem ret_S4 {P:Program} {fn:Func} {R:Ending->World->Prop} {a:Act} {wy:World} {r t:Nat} {v0 v1 v2 v3 u0 u1 u2 u3 v:Value} (hB:Bx wy r t #[v0,v1,v2,v3])
  (hr:∀ wS:World,wS.cell? ⟨r,0,none⟩=some u0->wS.cell? ⟨r,1,none⟩=some u1->wS.cell? ⟨r,2,none⟩=some u2->wS.cell? ⟨r,3,none⟩=some u3->(results fn a.tmps).run P wS=.ok v wS)
  (hd:a.defers=[]) (hR:R (.returned v) (S4 wy r u0 u1 u2 u3)):bodyPost P fn R .ret a (S4 wy r u0 u1 u2 u3):=by
 obtain ⟨z0,z1,z2,z3,_⟩:=(hB.set4 u0 u1 u2 u3).four
 exact bodyPost_ret (hr _ z0 z1 z2 z3) hd hR
theorem ret_S4d {P:Program} {fn:Func} {R:Ending->World->Prop} {a:Act} {wy:World} {r t:Nat} {v0 v1 v2 v3 u0 u1 u2 u3 v:Value} (hB:Bx wy r t #[v0,v1,v2,v3])
  (hr:∀ wS:World,wS.cell? ⟨r,0,none⟩=some u0->wS.cell? ⟨r,1,none⟩=some u1->wS.cell? ⟨r,2,none⟩=some u2->wS.cell? ⟨r,3,none⟩=some u3->(results fn a.tmps).run P wS=.ok v wS)
  (hd:a.defers=[]) (hR:R (.returned v) (S4 wy r u0 u1 u2 u3).drew):bodyPost P fn R .ret a (S4 wy r u0 u1 u2 u3).drew:=by
 obtain ⟨z0,z1,z2,z3,_⟩:=(hB.set4 u0 u1 u2 u3).drew.four
 exact bodyPost_ret (hr _ z0 z1 z2 z3) hd hR
theorem par2 (u:Nat):(((u:Nat):Int) % 2 == 0)=(u % 2 == 0):=by
 rcases Nat.mod_two_eq_zero_or_one u with h | h
 ·rw [h,show ((u:Int) % 2)=0 by omega];rfl
 ·rw [h,show ((u:Int) % 2)=1 by omega];rfl
theorem par3 (u v:Nat):(((u:Nat):Int) % 2 == ((v:Nat):Int) % 2)=((u+v) % 2 == 0):=by
 rcases Nat.mod_two_eq_zero_or_one u with h | h<;>rcases Nat.mod_two_eq_zero_or_one v with h2 | h2
 ·rw [show ((u:Int) % 2)=0 by omega,show ((v:Int) % 2)=0 by omega,show (u+v) % 2=0 by omega];rfl
 ·rw [show ((u:Int) % 2)=0 by omega,show ((v:Int) % 2)=1 by omega,show (u+v) % 2=1 by omega];rfl
 ·rw [show ((u:Int) % 2)=1 by omega,show ((v:Int) % 2)=0 by omega,show (u+v) % 2=1 by omega];rfl
 ·rw [show ((u:Int) % 2)=1 by omega,show ((v:Int) % 2)=1 by omega,show (u+v) % 2=0 by omega];rfl
set_option maxRecDepth 100000 in
theorem s_ComPau (n:Nat) (a b:Pq) (w:World) (hn:1<=n/\n<=4) (ha:okQn n a=true) (hb:okQn n b=true):Calls Tryz.prog 183 #[.agg #[.int .i64 (n:Nat),.int .i64 (a.x:Nat),.int .i64 (a.z:Nat),.int .i64 (a.p:Nat)],.agg #[.int .i64 (n:Nat),.int .i64 (b.x:Nat),.int .i64 (b.z:Nat),.int .i64 (b.p:Nat)]] w fun e w'=>e=.returned (.bool (comQ a b))/\Below w.heap.size w w':=by
 obtain ⟨a1,a2,a3⟩:=okQ16 hn.2 ha
 obtain ⟨b1,b2,b3⟩:=okQ16 hn.2 hb
 obtain ⟨m,hm⟩:∃ m,popQ (a.x &&& b.z)=m:=⟨_,rfl⟩
 obtain ⟨k,hk⟩:∃ m,popQ (a.z &&& b.x)=m:=⟨_,rfl⟩
 have hm4:m<=4:=by rw [<- hm];exact popQ_bd _
 have hk4:k<=4:=by rw [<- hk];exact popQ_bd _
 have e1:onesI (bits .and .i64 (a.x:Int) (b.z:Int))=(m:Nat):=by rw [(bt16 a1 b2).1,ones16 (bt16 a1 b2).2.2.2,hm]
 have e2:onesI (bits .and .i64 (a.z:Int) (b.x:Int))=(k:Nat):=by rw [(bt16 a2 b1).1,ones16 (bt16 a2 b1).2.2.2,hk]
 have HC:=zH (show comQ a b=((m+k) % 2 == 0) by unfold comQ;rw [hm,hk])
 have X0:=zH (show QB w w.heap.size n a ((w.alloc (.cells #[.int .i64 (n:Nat),.int .i64 (a.x:Nat),.int .i64 (a.z:Nat),.int .i64 (a.p:Nat)] 151)).alloc (.cells #[.int .i64 (n:Nat),.int .i64 (b.x:Nat),.int .i64 (b.z:Nat),.int .i64 (b.p:Nat)] 151)) from ⟨(Bx.new w _ _).alloc _,((zW).alloc zR _).alloc (by simp) _,zR⟩)
 have Y0:=zH (show QB w (w.heap.size+1) n b ((w.alloc (.cells #[.int .i64 (n:Nat),.int .i64 (a.x:Nat),.int .i64 (a.z:Nat),.int .i64 (a.p:Nat)] 151)).alloc (.cells #[.int .i64 (n:Nat),.int .i64 (b.x:Nat),.int .i64 (b.z:Nat),.int .i64 (b.p:Nat)] 151)) from ⟨Bx.new' (by simp),X0.out.2.1,by omega⟩)
 clear ha hb hm hk a1 a2 b1 b2
 obtain ⟨p0,p1,p2,p3⟩:=X0.out.cells
 obtain ⟨q0,q1,q2,q3⟩:=Y0.out.cells
 rw [HC.out]
 go_enter Tryz.func183,Tryz.ntmps183
 go_wp2_with fail
 go_quiet ((go_at_call 211;exact quiet_left (s_ones _ _)))
 go_wp2_with fail
 go_ret
 exact ⟨ret_bool (by rw [<- Int.natCast_add,par2]),below_drewN X0.out.2.1 _⟩
set_option maxRecDepth 100000 in
theorem i_ComPau (n:Nat) (a b:Pq) (w:World) (hn:1<=n/\n<=4) (ha:okQn n a=true) (hb:okQn n b=true):Calls Tryz.prog 192 #[.agg #[.int .i64 (n:Nat),.int .i64 (a.x:Nat),.int .i64 (a.z:Nat),.int .i64 (a.p:Nat)],.agg #[.int .i64 (n:Nat),.int .i64 (b.x:Nat),.int .i64 (b.z:Nat),.int .i64 (b.p:Nat)]] w fun e w'=>e=.returned (.bool (comQ a b))/\Below w.heap.size w w':=by
 obtain ⟨a1,a2,a3⟩:=okQ16 hn.2 ha
 obtain ⟨b1,b2,b3⟩:=okQ16 hn.2 hb
 obtain ⟨m,hm⟩:∃ m,popQ (a.x &&& b.z)=m:=⟨_,rfl⟩
 obtain ⟨k,hk⟩:∃ m,popQ (a.z &&& b.x)=m:=⟨_,rfl⟩
 have hm4:m<=4:=by rw [<- hm];exact popQ_bd _
 have hk4:k<=4:=by rw [<- hk];exact popQ_bd _
 have e1:onesI (bits .and .i64 (a.x:Int) (b.z:Int))=(m:Nat):=by rw [(bt16 a1 b2).1,ones16 (bt16 a1 b2).2.2.2,hm]
 have e2:onesI (bits .and .i64 (a.z:Int) (b.x:Int))=(k:Nat):=by rw [(bt16 a2 b1).1,ones16 (bt16 a2 b1).2.2.2,hk]
 have HC:=zH (show comQ a b=((m+k) % 2 == 0) by unfold comQ;rw [hm,hk])
 have X0:=zH (show QB w w.heap.size n a ((w.alloc (.cells #[.int .i64 (n:Nat),.int .i64 (a.x:Nat),.int .i64 (a.z:Nat),.int .i64 (a.p:Nat)] 151)).alloc (.cells #[.int .i64 (n:Nat),.int .i64 (b.x:Nat),.int .i64 (b.z:Nat),.int .i64 (b.p:Nat)] 151)) from ⟨(Bx.new w _ _).alloc _,((zW).alloc zR _).alloc (by simp) _,zR⟩)
 have Y0:=zH (show QB w (w.heap.size+1) n b ((w.alloc (.cells #[.int .i64 (n:Nat),.int .i64 (a.x:Nat),.int .i64 (a.z:Nat),.int .i64 (a.p:Nat)] 151)).alloc (.cells #[.int .i64 (n:Nat),.int .i64 (b.x:Nat),.int .i64 (b.z:Nat),.int .i64 (b.p:Nat)] 151)) from ⟨Bx.new' (by simp),X0.out.2.1,by omega⟩)
 clear ha hb hm hk a1 a2 b1 b2
 obtain ⟨p0,p1,p2,p3⟩:=X0.out.cells
 obtain ⟨q0,q1,q2,q3⟩:=Y0.out.cells
 rw [HC.out]
 go_enter Tryz.func192,Tryz.ntmps192
 go_wp2_with fail
 go_quiet ((go_at_call 212;exact quiet_left (i_ones _ _)))
 go_wp2_with fail
 go_ret
 exact ⟨ret_bool (by rw [<- Int.natCast_add,par2]),below_drewN X0.out.2.1 _⟩
theorem shl2:∀ q:Fin 4,IntKind.i64.wrap (2 ^ min (IntKind.u64.wrap ((q:Nat):Int)).toNat 64)=((2 ^ (q:Nat):Nat):Int)/\wrap64 (2 ^ (q:Nat))=((2 ^ (q:Nat):Nat):Int)/\IntKind.i64.wrap (2 ^ (q:Nat))=((2 ^ (q:Nat):Nat):Int):=by decide +kernel
set_option maxRecDepth 100000 in
theorem s_Single (n q:Nat) (z:Bool) (c:Pq) (w:World) (hq:q < 4) (hc:(if z then zQ q else xQ q)=c):Calls Tryz.prog 148 #[.int .i64 (n:Nat),.int .i64 (q:Nat),.bool z] w fun e w'=>e=.returned (.agg #[.int .i64 (n:Nat),.int .i64 (c.x:Nat),.int .i64 (c.z:Nat),.int .i64 (c.p:Nat)])/\Below w.heap.size w w':=by
 obtain ⟨S1,S2,S3⟩:=shl2 ⟨q,hq⟩
 simp only at S1 S2 S3
 obtain ⟨X,hX⟩:∃ X:Nat,2 ^ q=X:=⟨_,rfl⟩
 rw [hX] at S1 S2 S3
 subst hc
 cases z
 ·have hc:(if false then zQ q else xQ q)=⟨X,0,0⟩:=by rw [<- hX];rfl
  rw [hc]
  clear hc hX
  go_enter Tryz.func148,Tryz.ntmps148
  go_wp2_with fail
  exact bodyPost_ret (v:=.agg #[.int .i64 (n:Nat),.int .i64 (X:Nat),.int .i64 0,.int .i64 0]) (by simp [results,Tryz.results148,go_sem]) rfl ⟨rfl,(zW).alloc zR _⟩
 ·have hc:(if true then zQ q else xQ q)=⟨0,X,0⟩:=by rw [<- hX];rfl
  rw [hc]
  clear hc hX
  go_enter Tryz.func148,Tryz.ntmps148
  go_wp2_with fail
  exact bodyPost_ret (v:=.agg #[.int .i64 (n:Nat),.int .i64 0,.int .i64 (X:Nat),.int .i64 0]) (by simp [results,Tryz.results148,go_sem]) rfl ⟨rfl,(zW).alloc zR _⟩
set_option maxRecDepth 100000 in
theorem s_HerPau (n:Nat) (a:Pq) (w:World) (hn:1<=n/\n<=4) (ha:okQn n a=true):Calls Tryz.prog 182 #[.agg #[.int .i64 (n:Nat),.int .i64 (a.x:Nat),.int .i64 (a.z:Nat),.int .i64 (a.p:Nat)]] w fun e w'=>e=.returned (.bool (herQ a))/\Below w.heap.size w w':=by
 obtain ⟨a1,a2,a3⟩:=okQ16 hn.2 ha
 obtain ⟨m,hm⟩:∃ m,popQ (a.x &&& a.z)=m:=⟨_,rfl⟩
 have hm4:m<=4:=by rw [<- hm];exact popQ_bd _
 have e1:onesI (bits .and .i64 (a.x:Int) (a.z:Int))=(m:Nat):=by rw [(bt16 a1 a2).1,ones16 (bt16 a1 a2).2.2.2,hm]
 have HC:=zH (show herQ a=((a.p+m) % 2 == 0) by unfold herQ;rw [hm])
 have X0:=zH (show QB w w.heap.size n a (w.alloc (.cells #[.int .i64 (n:Nat),.int .i64 (a.x:Nat),.int .i64 (a.z:Nat),.int .i64 (a.p:Nat)] 151)) from ⟨Bx.new w _ _,(zW).alloc zR _,zR⟩)
 have HA:=zH ha
 clear ha hm a1 a2
 obtain ⟨p0,p1,p2,p3⟩:=X0.out.cells
 rw [HC.out]
 go_enter Tryz.func182,Tryz.ntmps182
 go_wp2_with fail
 have XD:=X0.out.drew
 clear X0
 go_region_held3 (fun w'=>w'.cell? ⟨w.heap.size,0,none⟩=some (.int .i64 (n:Nat))/\w'.cell? ⟨w.heap.size,1,none⟩=some (.int .i64 (a.x:Nat))/\w'.cell? ⟨w.heap.size,2,none⟩=some (.int .i64 (a.z:Nat))/\w'.cell? ⟨w.heap.size,3,none⟩=some (.int .i64 (a.p:Nat)))
  (first | exact ⟨p0,p1,p2,p3⟩ | exact X1.cells | go_keep)
  (first
   |(go_at_call 184;refine (s_IsPau n a _ hn HA.out).mono ?_;rintro e w3 ⟨rfl,b1⟩;have X1:=XD.below b1)
   |(go_at_call 211;refine (s_ones _ _).mono ?_;rintro e w3 ⟨rfl,rfl⟩)
   |fail)
 go_wp2_with fail
 go_ret
 exact ⟨ret_bool (by rw [<- Int.natCast_add,i64T (by omega) (by omega),Int.tmod_eq_emod_of_nonneg (by omega),par2]),X1.2.1⟩
set_option maxRecDepth 100000 in
theorem i_HerPau (n:Nat) (a:Pq) (w:World) (hn:1<=n/\n<=4) (ha:okQn n a=true):Calls Tryz.prog 191 #[.agg #[.int .i64 (n:Nat),.int .i64 (a.x:Nat),.int .i64 (a.z:Nat),.int .i64 (a.p:Nat)]] w fun e w'=>e=.returned (.bool (herQ a))/\Below w.heap.size w w':=by
 obtain ⟨a1,a2,a3⟩:=okQ16 hn.2 ha
 obtain ⟨m,hm⟩:∃ m,popQ (a.x &&& a.z)=m:=⟨_,rfl⟩
 have hm4:m<=4:=by rw [<- hm];exact popQ_bd _
 have e1:onesI (bits .and .i64 (a.x:Int) (a.z:Int))=(m:Nat):=by rw [(bt16 a1 a2).1,ones16 (bt16 a1 a2).2.2.2,hm]
 have HC:=zH (show herQ a=((a.p+m) % 2 == 0) by unfold herQ;rw [hm])
 have X0:=zH (show QB w w.heap.size n a (w.alloc (.cells #[.int .i64 (n:Nat),.int .i64 (a.x:Nat),.int .i64 (a.z:Nat),.int .i64 (a.p:Nat)] 151)) from ⟨Bx.new w _ _,(zW).alloc zR _,zR⟩)
 have HA:=zH ha
 clear ha hm a1 a2
 obtain ⟨p0,p1,p2,p3⟩:=X0.out.cells
 rw [HC.out]
 go_enter Tryz.func191,Tryz.ntmps191
 go_wp2_with fail
 have XD:=X0.out.drew
 clear X0
 go_region_held3 (fun w'=>w'.cell? ⟨w.heap.size,0,none⟩=some (.int .i64 (n:Nat))/\w'.cell? ⟨w.heap.size,1,none⟩=some (.int .i64 (a.x:Nat))/\w'.cell? ⟨w.heap.size,2,none⟩=some (.int .i64 (a.z:Nat))/\w'.cell? ⟨w.heap.size,3,none⟩=some (.int .i64 (a.p:Nat)))
  (first | exact ⟨p0,p1,p2,p3⟩ | exact X1.cells | go_keep)
  (first
   |(go_at_call 193;refine (i_IsPau n a _ hn HA.out).mono ?_;rintro e w3 ⟨rfl,b1⟩;have X1:=XD.below b1)
   |(go_at_call 212;refine (i_ones _ _).mono ?_;rintro e w3 ⟨rfl,rfl⟩)
   |fail)
 go_wp2_with fail
 go_ret
 exact ⟨ret_bool (by rw [Int.tmod_eq_emod_of_nonneg (by omega),Int.tmod_eq_emod_of_nonneg (by omega),par3]),X1.2.1⟩
end Go.Proofs.YtmenmibfkojnoaaGreat
