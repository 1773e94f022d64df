/- Contracts of the drawing helpers: big, l1New, l1Byte, l1Below. The code has at most 2^20 bytes where a cursor is made. The map from numbers to truth values that IsValidGate keeps: what a lookup and an update do. Plain: the number of ones among 64 bits, as math/bits reckons it and as a loop counts it. Nothing is asked. Contracts of ones (impl), l25Ones (spec). Nothing is asked. -/
import Derived.Test.YtmenmibfkojnoaaGreatV01
import Derived.Test.YtmenmibfkojnoaaGreatProg
import Derived.Deep.QuietTactic
import Derived.BigQuiet
import Derived.Laws.BitsAllLaws
import Derived.Laws.BitsLemmas
import Derived.Outline
import Derived.MapKept
import Derived.WideMake
import Derived.ChangeOld
import Derived.Lib.Hide
set_option maxHeartbeats 16000000
namespace Go.Proofs.YtmenmibfkojnoaaGreat
open Go.RowKit
def RdB (w:World) (A:Option Addr) (n:Nat) (zs:List Int):Prop:=zs.length=n/\Rd w 1 A n (zs.map (Value.int .u8))
theorem RdB.at_ {w:World} {n:Nat} {A:Option Addr} {zs:List Int} (h:RdB w A n zs) {k:Nat} (hk:k < n):∃ (b off:Nat) (x:Int),A=some ⟨b,off,none⟩/\b < w.heap.size/\x ∈ zs/\w.cell? ⟨b,off+k,none⟩=some (.int .u8 x):=by
 obtain ⟨hl,hr⟩:=h
 obtain ⟨b,off,e,hb,hc⟩:=hr.2 (by omega)
 refine ⟨b,off,zs[k]'(by omega),e,hb,by simp,hc _ _ ?_⟩
 simp only [List.getElem?_map]
 rw [List.getElem?_eq_getElem (by omega)]
 rfl
theorem Rd.setCell0 {w:World} {sz n:Nat} {A:Option Addr} {xs:List Value} (h:Rd w sz A n xs) {p:Addr} (u:Value) (hp:0 < n->∀ b off,A=some ⟨b,off,none⟩->b ≠ p.block):Rd (w.setCell p u) sz A n xs:=by
 rcases Nat.eq_zero_or_pos n with h0 | h0
 ·subst h0
  have:xs=[]:=List.eq_nil_of_length_eq_zero (by simpa using h.1)
  subst this
  exact Rd.zero _ _ _
 ·exact h.setCell u (hp h0)
theorem and_lit (a:Int) (m:Nat) (hm:m < 9223372036854775808):0<=bits .and .i64 a (m:Int)/\bits .and .i64 a (m:Int)<=m:=by
 have h:bits .and .i64 a (m:Int)=IntKind.i64.wrap (((BitVec.ofInt 64 a &&& BitVec.ofInt 64 (m:Int)).toNat:Nat):Int):=rfl
 have h2:(BitVec.ofInt 64 (m:Int)).toNat=m:=by
  rw [BitVec.ofInt_natCast,BitVec.toNat_ofNat];exact Nat.mod_eq_of_lt (by omega)
 have h3:(BitVec.ofInt 64 a &&& BitVec.ofInt 64 (m:Int)).toNat<=m:=by
  rw [BitVec.toNat_and,h2];exact Nat.and_le_right
 rw [h,IntKind.wrap_i64]
 omega
def Cur (w:World) (g:Nat):Prop :=
 ∃ (A:Option Addr) (n c:Nat) (i h:Int) (zs:List Int),Bx w g 122 #[.slice A n c,.int .i64 i,.int .i64 h]/\RdB w A n zs/\(∀ z ∈ zs,0<=z/\z<=255)/\0<=i/\i<=n/\n<=1048576/\(0 < n->∀ b off,A=some ⟨b,off,none⟩->b < g)
theorem Cur.below {w w':World} {g:Nat} (h:Cur w g) (hb:Below w.heap.size w w'):Cur w' g:=by
 obtain ⟨A,n,c,i,hh,zs,h1,h2,h3⟩:=h
 exact ⟨A,n,c,i,hh,zs,h1.below hb,⟨h2.1,h2.2.below hb⟩,h3⟩
theorem Cur.lt {w:World} {g:Nat} (h:Cur w g):g < w.heap.size:=by
 obtain ⟨A,n,c,i,hh,zs,h1,_⟩:=h
 exact h1.lt
theorem Cur.row {w w':World} {g:Nat} {row:Option Nat} (h:Cur w g) (hg:w.grownBy w' row) (hr:∀ k,row=some k->g < k):Cur w' g:=by
 obtain ⟨A,n,c,i,hh,zs,h1,h2,h3,h4,h5,h6,h7⟩:=h
 refine ⟨A,n,c,i,hh,zs,h1.grown hg (fun e=>by have:=hr g e.symm;omega),⟨h2.1,?_⟩,h3,h4,h5,h6,h7⟩
 rcases Nat.eq_zero_or_pos n with h0 | h0
 ·subst h0
  have:zs=[]:=List.eq_nil_of_length_eq_zero h2.1
  subst this
  exact Rd.zero _ _ _
 ·exact h2.2.grown hg fun b off e he=>by
   have a:=h7 h0 b off e
   have b:=hr _ he.symm
   omega
theorem Cur.setCell {w:World} {g:Nat} (h:Cur w g) {p:Addr} (hp:g < p.block) (u:Value):Cur (w.setCell p u) g :=
 h.row (row:=some p.block) ⟨rfl,rfl,rfl,by simp [World.setCell],fun k _ hk=>Below.heap_setCell w _ u k (fun e=>hk (by rw [e]))⟩ (fun k e=>by injection e with e;omega)
theorem Cur.bx {w:World} {g:Nat} (h:Cur w g):∃ cs,Bx w g 122 cs:=by
 obtain ⟨A,n,c,i,hh,zs,h1,_⟩:=h
 exact ⟨_,h1⟩
def Drawn (p:Int->Prop) (g:Nat) (w:World) (e:Ending) (w':World):Prop :=
 ∃ x:Int,e=.returned (.int .i64 x)/\p x/\Cur w' g/\w.grownBy w' (some g)
theorem l_big (A:Option Addr) (n cap:Nat) (w:World) (hn:n<=9223372036854775807) :
  Calls Tryz.prog 17 #[.slice A n cap] w fun e w'=>e=.returned (.bool (decide (1048576 < n)))/\w=w':=by
 by_cases h:1048576 < n
 ·go_enter Tryz.func17,Tryz.ntmps17
  go_wp2
  go_ret
  exact ⟨ret_bool (by simp;omega),rfl⟩
 ·go_enter Tryz.func17,Tryz.ntmps17
  go_wp2
  go_ret
  exact ⟨ret_bool (by simp;omega),rfl⟩
theorem s_l1Byte (g:Nat) (w:World) (h:Cur w g) :
  Calls Tryz.prog 119 #[.pointer (some ⟨g,0,none⟩)] w (Drawn (fun x=>0<=x/\x<=255) g w):=by
 obtain ⟨A,n,c,i,h,zs,hbx,hr,hz,h0,h1,h2,hA⟩:=h
 obtain ⟨k,rfl⟩:=Int.eq_ofNat_of_zero_le h0
 have HB:=zH hbx
 have HR:=zH hr
 have HZ:=zH hz
 have HA:=zH (show 0 < n->∀ b off,A=some ⟨b,off,none⟩->b ≠ g from fun h0 b off e=>Nat.ne_of_lt (hA h0 b off e))
 have HA':=zH hA
 obtain ⟨q0,q1,q2,f0,f1,f2⟩:w.cell? ⟨g,0,none⟩=some (.slice A n c)/\w.cell? ⟨g,1,none⟩=some (.int .i64 (k:Int))/\w.cell? ⟨g,2,none⟩=some (.int .i64 h)/\w.frozen? ⟨g,0,none⟩=false/\w.frozen? ⟨g,1,none⟩=false/\w.frozen? ⟨g,2,none⟩=false :=
  ⟨hbx.cell 0,hbx.cell 1,hbx.cell 2,hbx.free 0,hbx.free 1,hbx.free 2⟩
 clear hbx hr hz hA
 go_enter Tryz.func119,Tryz.ntmps119
 go_wp2
 generalize wrap64 (wrap64 (h * 6364136223846793005)+1442695040888963407)=h'
 obtain ⟨W,hW⟩:∃ W,W=w.setCell ⟨g,2,none⟩ (.int .i64 h'):=⟨_,rfl⟩
 rw [<- hW]
 have B1:Bx W g 122 #[.slice A n c,.int .i64 (k:Int),.int .i64 h']:=by rw [hW];exact HB.out.set_ 2 _
 have R1:RdB W A n zs:=by rw [hW];exact ⟨HR.out.1,HR.out.2.setCell0 _ HA.out⟩
 have G1:w.grownBy W (some g):=by
  rw [hW]
  exact ⟨rfl,rfl,rfl,by simp [World.setCell],fun k hk hne=>Below.heap_setCell w _ _ k (fun e=>hne (by rw [e]))⟩
 clear hW q0 q1 q2 f0 f1 f2
 obtain ⟨q0,q1,q2,f0,f1,f2⟩:W.cell? ⟨g,0,none⟩=some (.slice A n c)/\W.cell? ⟨g,1,none⟩=some (.int .i64 (k:Int))/\W.cell? ⟨g,2,none⟩=some (.int .i64 h')/\W.frozen? ⟨g,0,none⟩=false/\W.frozen? ⟨g,1,none⟩=false/\W.frozen? ⟨g,2,none⟩=false :=
  ⟨B1.cell 0,B1.cell 1,B1.cell 2,B1.free 0,B1.free 1,B1.free 2⟩
 have HB1:=zH B1
 have HR1:=zH R1
 clear B1 R1
 go_quiet (fail)
 go_wp2
 have hx:=and_lit (bits BinOp.xor IntKind.i64 (h' / 8589934592) (h' / 35184372088832)) 255 (by omega)
 generalize bits BinOp.and IntKind.i64 (bits BinOp.xor IntKind.i64 (h' / 8589934592) (h' / 35184372088832)) 255=x at hx ⊢
 by_cases hlt:k < n
 ·obtain ⟨b,off,z,rfl,hb,hz,c0⟩:=HR1.out.at_ hlt
  have hzb:=HZ.out z hz
  have hne:b ≠ g:=HA.out (by omega) b off rfl
  have hi1:(k:Int) < (n:Int):=by omega
  clear hz
  go_quiet (fail)
  go_wp2
  go_quiet (fail)
  go_wp2
  go_ret
  have hB2:∀ m,Bx ((W.drewN m).setCell ⟨g,1,none⟩ (.int .i64 ((k:Int)+1))) g 122 #[.slice (some ⟨b,off,none⟩) n c,.int .i64 ((k:Int)+1),.int .i64 h']:=fun m=>Bx.set_ (w:=W.drewN m) HB1.out 1 _
  refine ⟨_,rfl,and_lit (x+z) 255 (by omega),⟨_,n,c,(k:Int)+1,h',zs,hB2 _,⟨HR1.out.1,Rd.setCell0 (w:=W.drewN _) HR1.out.2 _ HA.out⟩,HZ.out,by omega,by omega,by omega,HA'.out⟩,?_⟩
  exact ⟨G1.os,G1.tape,G1.output,by simpa [World.setCell] using G1.size,fun j hj hne=>(Below.heap_setCell (W.drewN _) ⟨g,1,none⟩ _ j (fun e=>hne (by rw [e]))).trans (G1.block j hj hne)⟩
 ·have hi1:decide ((k:Int) < (n:Int))=false:=by simp;omega
  go_quiet (fail)
  go_wp2
  go_ret
  exact ⟨x,rfl,hx,⟨A,n,c,k,h',zs,HB1.out,HR1.out,HZ.out,by omega,by omega,by omega,HA'.out⟩,⟨G1.os,G1.tape,G1.output,G1.size,G1.block⟩⟩
theorem rem_bd (x n:Int) (h1:1<=n):0<=x % n/\x % n < n:=⟨Int.emod_nonneg _ (by omega),Int.emod_lt_of_pos _ (by omega)⟩
theorem s_l1Below (g:Nat) (n:Int) (w:World) (h:Cur w g) (hn:n<=1000000) :
  Calls Tryz.prog 74 #[.pointer (some ⟨g,0,none⟩),.int .i64 n] w (Drawn (fun x=>(1<=n->0<=x/\x < n)/\(n<=0->x=0)) g w):=by
 have H:=zH h
 clear h
 by_cases h0:n<=0
 ·go_enter Tryz.func74,Tryz.ntmps74
  go_wp2_with fail
  go_ret
  exact ⟨0,rfl,⟨fun h=>by omega,fun _=>rfl⟩,H.out,World.grownBy.refl _ _⟩
 ·have hn1:1<=n:=by omega
  by_cases h256:n<=256
  ·go_enter Tryz.func74,Tryz.ntmps74
   go_wp2_with fail
   refine (s_l1Byte _ _ H.out).mono ?_
   rintro e w1 ⟨x,rfl,⟨hx0,hx1⟩,hc1,g1⟩
   go_wp2_with fail
   go_ret
   exact ⟨x % n,rfl,⟨fun _=>rem_bd x n hn1,fun h=>by omega⟩,hc1,g1⟩
  ·go_enter Tryz.func74,Tryz.ntmps74
   go_wp2_with fail
   refine (s_l1Byte _ _ H.out).mono ?_
   rintro e w1 ⟨x,rfl,⟨hx0,hx1⟩,hc1,g1⟩
   go_wp2_with fail
   refine (s_l1Byte _ _ hc1).mono ?_
   rintro e w2 ⟨y,rfl,⟨hy0,hy1⟩,hc2,g2⟩
   go_wp2_with fail
   refine (s_l1Byte _ _ hc2).mono ?_
   rintro e w3 ⟨z,rfl,⟨hz0,hz1⟩,hc3,g3⟩
   go_wp2_with fail
   refine (s_l1Byte _ _ hc3).mono ?_
   rintro e w4 ⟨u,rfl,⟨hu0,hu1⟩,hc4,g4⟩
   go_wp2_with fail
   go_ret
   refine ⟨(x * 16777216+y * 65536+z * 256+u) % n,rfl,⟨fun _=>rem_bd _ n hn1,fun h=>by omega⟩,hc4,((g1.trans g2).trans g3).trans g4⟩
def RetCur (w:World) (e:Ending) (w':World):Prop:=∃ g,e=.returned (.pointer (some ⟨g,0,none⟩))/\Cur w' g/\w.heap.size<=g/\Below w.heap.size w w'
set_option maxRecDepth 100000 in
theorem s_l1New (A:Option Addr) (n cap:Nat) (zs:List Int) (w:World) (h:RdB w A n zs) (hz:∀ z ∈ zs,0<=z/\z<=255) (hn:n<=1048576) :
  Calls Tryz.prog 71 #[.slice A n cap] w (RetCur w):=by
 have H:=zH h
 have HZ:=zH hz
 clear h hz
 go_enter Tryz.func71,Tryz.ntmps71
 go_wp2_with fail
 go_loop [3,4] (fun s i=>∃ (k:Nat) (x:Int),k<=n/\i=.int .i64 k/\s=.int .i64 x) (fun _ i=>n - (intOf i).toNat)
 case atStart=>exact ⟨0,_,by omega,rfl,rfl⟩
 case round =>
  obtain ⟨k,x,hk,rfl,rfl⟩:=hrel
  have fin:∀ y:Int,RetCur w (.returned (.pointer (some ⟨w.heap.size,0,none⟩))) (w.alloc (.cells #[.slice A n cap,.int .i64 0,.int .i64 y] 122)):=fun y =>
   ⟨_,rfl,⟨A,n,cap,0,y,zs,Bx.new w _ _,⟨H.out.1,H.out.2.alloc _⟩,HZ.out,by omega,by omega,hn,fun h0 b off e=>by
    obtain ⟨b',off',e',hb,_⟩:=H.out.2.2 h0
    rw [e] at e';injection e' with e';injection e' with e' _;omega⟩,zR,(zW).alloc zR _⟩
  have FIN:=zH fin
  clear fin
  by_cases hlt:k < n
  ·by_cases h4:k < 4000
   ·obtain ⟨b,off,z,rfl,hb,hzm,c0⟩:=H.out.at_ hlt
    have hzb:=HZ.out z hzm
    clear hzm
    go_wp2_with fail
    go_round
    case rel=>exact ⟨k+1,_,by omega,by go_num,rfl⟩
    case measure=>simp [intOf];omega
   ·go_wp2_with fail
    go_ret
    exact FIN.out x
  ·go_wp2_with fail
   go_ret
   exact FIN.out x
def EntsI (es:List MapEntry) (zs:List Int):Prop:=es.map (fun e=>(e.key,e.val))=zs.map (fun z=>(Value.int .i64 z,Value.bool true))
theorem EntsI.key {es:List MapEntry} {zs:List Int} (h:EntsI es zs):∀ x ∈ es,MapKept.IsKey (.int .i64) x.key:=by
 intro x hx
 have:(x.key,x.val) ∈ es.map (fun e=>(e.key,e.val)):=List.mem_map.2 ⟨x,hx,rfl⟩
 rw [h] at this
 obtain ⟨z,_,e⟩:=List.mem_map.1 this
 injection e with e1 e2
 rw [<- e1];rfl
theorem findI (k:Int) (w:World) (es:List MapEntry) (zs:List Int) (h:EntsI es zs) :
  ∃ r,(Instr.findKey 3 (.int .i64 k) es).run Tryz.prog w=.ok r w/\(zs.any (· == k)=true->∃ j,r=some (j,.bool true))/\(zs.any (· == k)=false->r=none):=by
 rcases MapKept.findNow_spec (d:=.int .i64) (k:=.int .i64 k) rfl es 0 h.key with ⟨h1,h2⟩ | ⟨j,e,h1,h2,h3⟩
 ·refine ⟨none,MapKept.run_findKey Tryz.underlying3 h1,fun ht=>?_,fun _=>rfl⟩
  obtain ⟨z,hz,hzk⟩:=List.any_eq_true.1 ht
  have hm:(Value.int .i64 z,Value.bool true) ∈ es.map (fun e=>(e.key,e.val)):=by rw [h];exact List.mem_map.2 ⟨z,hz,rfl⟩
  obtain ⟨x,hx,e⟩:=List.mem_map.1 hm
  injection e with e1 e2
  exact absurd (e1.trans (by rw [eq_of_beq hzk])) (h2 x hx)
 ·have hx:e ∈ es:=List.mem_of_getElem? h2
  have hm:(e.key,e.val) ∈ zs.map (fun z=>(Value.int .i64 z,Value.bool true)):=by rw [<- h];exact List.mem_map.2 ⟨e,hx,rfl⟩
  obtain ⟨z,hz,q⟩:=List.mem_map.1 hm
  injection q with q1 q2
  refine ⟨some (0+j,e.val),MapKept.run_findKey Tryz.underlying3 h1,fun _=>⟨0+j,by rw [<- q2]⟩,fun hf=>?_⟩
  rw [h3] at q1
  injection q1 with _ q3
  have:=List.any_eq_false.1 hf z hz
  simp [q3] at this
theorem check_keyI (k:Int) (b:Bool) (w:World):(Instr.checkKey b 10000 3 (.int .i64 k)).run Tryz.prog w=.ok () w :=
 MapKept.run_checkKey Tryz.underlying3 (k:=.int .i64 k) rfl b 9999
theorem run_lookup_i (r clock:Nat) (k:Int) (es:Array MapEntry) (zs:List Int) (w:World) (hb:w.heap[r]? = some (.map es clock)) (h:EntsI es.toList zs) :
  (Instr.lookup 78 (.map (some r)) (.int .i64 k) false).run Tryz.prog w=.ok (.bool (zs.any (· == k))) w:=by
 have hM:Tryz.prog.underlying 78=some (.map 3 4):=by kernel_rfl
 obtain ⟨r',h1,h2,h3⟩:=findI k w es.toList zs h
 have hz:(zeroValue 4).run Tryz.prog w=.ok (.bool false) w:=by kernel_rfl
 cases hp:zs.any (· == k)
 ·obtain rfl:=h3 hp
  simp [Instr.lookup,run_underlying hM,MapKept.run_getObj_map hb,check_keyI,h1,hz,Result.andThen]
 ·obtain ⟨j,rfl⟩:=h2 hp
  simp [Instr.lookup,run_underlying hM,MapKept.run_getObj_map hb,check_keyI,h1,Result.andThen]
theorem run_update_i (r clock:Nat) (k:Int) (es:Array MapEntry) (zs:List Int) (w:World) (hb:w.heap[r]? = some (.map es clock)) (h:EntsI es.toList zs) (hp:zs.any (· == k)=false) :
  (Instr.mapUpdate 78 (.map (some r)) (.int .i64 k) (.bool true)).run Tryz.prog w=.ok () { w with heap:=w.heap.setIfInBounds r (.map (es.push { key:=.int .i64 k,val:=.bool true,born:=clock }) (clock+1)) }:=by
 have hM:Tryz.prog.underlying 78=some (.map 3 4):=by kernel_rfl
 obtain ⟨r',h1,h2,h3⟩:=findI k w es.toList zs h
 obtain rfl:=h3 hp
 simp [Instr.mapUpdate,run_underlying hM,MapKept.run_getObj_map hb,check_keyI,h1,MapKept.run_setObj_map _ hb,Result.andThen]
theorem EntsI.push {es:Array MapEntry} {zs:List Int} (h:EntsI es.toList zs) (k:Int) (b:Nat):EntsI (es.push { key:=.int .i64 k,val:=.bool true,born:=b }).toList (zs++[k]):=by
 unfold EntsI at h ⊢
 rw [Array.toList_push,List.map_append,h,List.map_append];rfl
theorem below_setObjI {B:Nat} {a w:World} (h:Below B a w) {r:Nat} (hr:B<=r) (o:Obj):Below B a { w with heap:=w.heap.setIfInBounds r o } :=
 h.trans ⟨rfl,rfl,rfl,by simp,fun k hk=>by
  show (w.heap.setIfInBounds r o)[k]? = _
  rw [Array.getElem?_setIfInBounds_ne (by omega)]⟩
theorem Bx.setObjI {w:World} {g t:Nat} {cs:Array Value} (h:Bx w g t cs) {r:Nat} (hr:g ≠ r) (o:Obj):Bx { w with heap:=w.heap.setIfInBounds r o } g t cs:=by
 unfold Bx at h ⊢
 show (w.heap.setIfInBounds r o)[g]? = _
 rw [Array.getElem?_setIfInBounds_ne (by omega)];exact h
theorem map_setObjI {w:World} {r:Nat} {o o':Obj} (h:w.heap[r]? = some o):({ w with heap:=w.heap.setIfInBounds r o' }:World).heap[r]? = some o':=(MapKept.heap_set h).1
theorem map_allocI {w:World} {r:Nat} {o o':Obj} (h:w.heap[r]? = some o):(w.alloc o').heap[r]? = some o:=(Below.heap_alloc w o' r (Array.getElem?_eq_some_iff.1 h).1).trans h
theorem map_belowI {w w':World} {r:Nat} {o:Obj} (h:w.heap[r]? = some o) (hb:Below w.heap.size w w'):w'.heap[r]? = some o:=(hb.block r (Array.getElem?_eq_some_iff.1 h).1).trans h
def popN:Nat->Nat->Nat
 |0,_=>0
 |f+1,x=>x % 2+popN f (x / 2)
def ofB:List Nat->Nat
 |[]=>0
 |a :: r=>a+256 * ofB r
def bts:Nat->Nat->List Nat
 |0,_=>[]
 |f+1,x=>x % 256 :: bts f (x / 256)
theorem ofB_bts:∀ (f x:Nat),x < 256 ^ f->ofB (bts f x)=x
 |0,x,h=>by simp at h;subst h;rfl
 |f+1,x,h=>by
  rw [Nat.pow_succ] at h
  have:=ofB_bts f (x / 256) (by omega)
  rw [bts,ofB,this]
  omega
theorem bts_lt:∀ (f x:Nat),∀ b ∈ bts f x,b < 256
 |0,_,b,h=>by simp [bts] at h
 |f+1,x,b,h=>by
  rw [bts] at h
  rcases List.mem_cons.1 h with h | h
  ·omega
  ·exact bts_lt f _ b h
theorem popN_split:∀ (k f x:Nat),popN (k+f) x=popN k (x % 2 ^ k)+popN f (x / 2 ^ k)
 |0,f,x=>by simp [popN]
 |k+1,f,x=>by
  have e:k+1+f=(k+f)+1:=by omega
  rw [e,popN,popN_split k f (x / 2),popN]
  have h1:x % 2 ^ (k+1) % 2=x % 2:=by
   rw [Nat.pow_succ,Nat.mul_comm]
   exact Nat.mod_mul_right_mod x 2 (2 ^ k)
  have h2:x % 2 ^ (k+1) / 2=x / 2 % 2 ^ k:=by
   rw [Nat.pow_succ,Nat.mul_comm]
   exact Nat.mod_mul_right_div_self x 2 (2 ^ k)
  have h3:x / 2 / 2 ^ k=x / 2 ^ (k+1):=by
   rw [Nat.div_div_eq_div_mul,Nat.pow_succ,Nat.mul_comm]
  rw [h1,h2,h3]
  omega
theorem popN_byte (f a b:Nat) (ha:a < 256):popN (8+f) (a+256 * b)=popN 8 a+popN f b:=by
 rw [popN_split]
 have h1:(a+256 * b) % 2 ^ 8=a:=by omega
 have h2:(a+256 * b) / 2 ^ 8=b:=by omega
 rw [h1,h2]
theorem and_byte (a b c d:Nat) (ha:a < 256) (hc:c < 256):(a+256 * b) &&& (c+256 * d)=(a &&& c)+256 * (b &&& d):=by
 have h1:=Nat.and_mod_two_pow (a:=a+256 * b) (b:=c+256 * d) (n:=8)
 have h2:=Nat.and_div_two_pow (a:=a+256 * b) (b:=c+256 * d) (n:=8)
 have e1:(a+256 * b) % 2 ^ 8=a:=by omega
 have e2:(c+256 * d) % 2 ^ 8=c:=by omega
 have e3:(a+256 * b) / 2 ^ 8=b:=by omega
 have e4:(c+256 * d) / 2 ^ 8=d:=by omega
 rw [e1,e2] at h1
 rw [e3,e4] at h2
 omega
def msk (c:Nat):List Nat->Nat
 |[]=>0
 |_ :: r=>c+256 * msk c r
def s1 (a:Nat):Nat:=(a / 2 &&& 85)+(a &&& 85)
def s2 (a:Nat):Nat:=(a / 4 &&& 51)+(a &&& 51)
def s3 (a:Nat):Nat:=(a / 16+a) &&& 15
theorem s1_low:∀ (a:Fin 256) (b:Fin 2),((a.val / 2+128 * b.val) &&& 85)+(a.val &&& 85)=s1 a.val/\s1 a.val < 256:=by decide +kernel
theorem s2_low:∀ (a:Fin 256) (b:Fin 4),((a.val / 4+64 * b.val) &&& 51)+(a.val &&& 51)=s2 a.val/\s2 a.val < 256/\s2 a.val % 16<=6/\s2 a.val / 16<=6:=by decide +kernel
theorem s3_low:∀ (a:Fin 103) (b:Fin 9),((a.val / 16+16 * b.val+a.val) &&& 15)=s3 a.val:=by decide +kernel
theorem pop_all:∀ a:Fin 256,s3 (s2 (s1 a.val))=popN 8 a.val/\popN 8 a.val<=8:=by decide +kernel
theorem step1:∀ (l:List Nat),(∀ a ∈ l,a < 256)->(ofB l / 2 &&& msk 85 l)+(ofB l &&& msk 85 l)=ofB (l.map s1)
 |[],_=>rfl
 |a :: r,h=>by
  have ha:=h a (by simp)
  have ih:=step1 r fun b hb=>h b (by simp [hb])
  obtain ⟨h1,_⟩:=s1_low ⟨a,ha⟩ ⟨ofB r % 2,by omega⟩
  simp only at h1
  have e1:(a+256 * ofB r) / 2=(a / 2+128 * (ofB r % 2))+256 * (ofB r / 2):=by omega
  simp only [ofB,msk,List.map_cons]
  rw [e1,and_byte _ _ _ _ (by omega) (by omega),and_byte _ _ _ _ ha (by omega),<- ih,<- h1]
  omega
theorem step2:∀ (l:List Nat),(∀ a ∈ l,a < 256)->(ofB l / 4 &&& msk 51 l)+(ofB l &&& msk 51 l)=ofB (l.map s2)
 |[],_=>rfl
 |a :: r,h=>by
  have ha:=h a (by simp)
  have ih:=step2 r fun b hb=>h b (by simp [hb])
  obtain ⟨h1,_⟩:=s2_low ⟨a,ha⟩ ⟨ofB r % 4,by omega⟩
  simp only at h1
  have e1:(a+256 * ofB r) / 4=(a / 4+64 * (ofB r % 4))+256 * (ofB r / 4):=by omega
  simp only [ofB,msk,List.map_cons]
  rw [e1,and_byte _ _ _ _ (by omega) (by omega),and_byte _ _ _ _ ha (by omega),<- ih,<- h1]
  omega
theorem low16:∀ (l:List Nat),(∀ a ∈ l,a % 16<=6)->ofB l % 16<=6
 |[],_=>by simp [ofB]
 |a :: r,h=>by
  have:=h a (by simp)
  simp only [ofB]
  omega
theorem step3:∀ (l:List Nat),(∀ a ∈ l,a % 16<=6/\a / 16<=6)->(ofB l / 16+ofB l &&& msk 15 l)=ofB (l.map s3)
 |[],_=>rfl
 |a :: r,h=>by
  obtain ⟨ha1,ha2⟩:=h a (by simp)
  have ih:=step3 r fun b hb=>h b (by simp [hb])
  have hr:=low16 r fun b hb=>(h b (by simp [hb])).1
  have h1:=s3_low ⟨a,by omega⟩ ⟨ofB r % 16,by omega⟩
  simp only at h1
  have e1:(a+256 * ofB r) / 16+(a+256 * ofB r)=(a / 16+16 * (ofB r % 16)+a)+256 * (ofB r / 16+ofB r):=by omega
  simp only [ofB,msk,List.map_cons]
  rw [e1,and_byte _ _ _ _ (by omega) (by omega),<- ih,<- h1]
theorem bts_len:∀ f x:Nat,(bts f x).length=f
 |0,_=>rfl
 |f+1,x=>by rw [bts,List.length_cons,bts_len f]
theorem popN_bytes:∀ (l:List Nat),(∀ a ∈ l,a < 256)->popN (8 * l.length) (ofB l)=(l.map (popN 8)).sum
 |[],_=>rfl
 |a :: r,h=>by
  have ih:=popN_bytes r fun b hb=>h b (by simp [hb])
  rw [show 8 * (a :: r).length=8+8 * r.length by simp;omega,ofB,popN_byte _ _ _ (h a (by simp)),ih]
  simp
def swarA (x:Nat):Nat:=(x / 2 &&& 6148914691236517205)+(x &&& 6148914691236517205)
def swarB (y:Nat):Nat:=(y / 4 &&& 3689348814741910323)+(y &&& 3689348814741910323)
def swarC (z:Nat):Nat:=(z / 16+z) &&& 1085102592571150095
theorem ofB8 (c0 c1 c2 c3 c4 c5 c6 c7:Nat):ofB [c0,c1,c2,c3,c4,c5,c6,c7]=c0+256 * c1+65536 * c2+16777216 * c3+4294967296 * c4+1099511627776 * c5+281474976710656 * c6+72057594037927936 * c7:=by
 simp only [ofB]
 omega
theorem ofB8_lt (m c0 c1 c2 c3 c4 c5 c6 c7:Nat) (h0:c0 < m) (h1:c1 < m) (h2:c2 < m) (h3:c3 < m) (h4:c4 < m) (h5:c5 < m) (h6:c6 < m) (h7:c7 < m) (hm:m<=256):ofB [c0,c1,c2,c3,c4,c5,c6,c7] < 18446744073709551616:=by
 rw [ofB8]
 omega
theorem lt103 {a:Nat} (h:a % 16<=6/\a / 16<=6):a < 103:=by omega
theorem ofB8_sum (c0 c1 c2 c3 c4 c5 c6 c7:Nat) (h0:c0 < 103) (h1:c1 < 103) (h2:c2 < 103) (h3:c3 < 103) (h4:c4 < 103) (h5:c5 < 103) (h6:c6 < 103) (h7:c7 < 103):ofB [c0,c1,c2,c3,c4,c5,c6,c7] / 16+ofB [c0,c1,c2,c3,c4,c5,c6,c7] < 18446744073709551616:=by
 rw [ofB8]
 omega
theorem swarA_eq (x:Nat):swarA x=(x / 2 &&& 6148914691236517205)+(x &&& 6148914691236517205):=by unfold swarA;exact Eq.refl _
theorem swarB_eq (y:Nat):swarB y=(y / 4 &&& 3689348814741910323)+(y &&& 3689348814741910323):=by unfold swarB;exact Eq.refl _
theorem swarC_eq (z:Nat):swarC z=(z / 16+z) &&& 1085102592571150095:=by unfold swarC;exact Eq.refl _
theorem eight {l:List Nat} (h:l.length=8):∃ a b c d e f g k,l=[a,b,c,d,e,f,g,k]:=by
 match l,h with
 |[a,b,c,d,e,f,g,k],_=>exact ⟨a,b,c,d,e,f,g,k,rfl⟩
theorem msk8_85 {l:List Nat} (h:l.length=8):msk 85 l=6148914691236517205:=by
 obtain ⟨a,b,c,d,e,f,g,k,rfl⟩:=eight h
 simp only [msk]
theorem msk8_51 {l:List Nat} (h:l.length=8):msk 51 l=3689348814741910323:=by
 obtain ⟨a,b,c,d,e,f,g,k,rfl⟩:=eight h
 simp only [msk]
theorem msk8_15 {l:List Nat} (h:l.length=8):msk 15 l=1085102592571150095:=by
 obtain ⟨a,b,c,d,e,f,g,k,rfl⟩:=eight h
 simp only [msk]
theorem ofB_lt8 {l:List Nat} (h:l.length=8) (hb:∀ a ∈ l,a < 256):ofB l < 18446744073709551616:=by
 obtain ⟨a,b,c,d,e,f,g,k,rfl⟩:=eight h
 simp only [List.mem_cons,List.not_mem_nil,or_false,forall_eq_or_imp,forall_eq] at hb
 obtain ⟨k0,k1,k2,k3,k4,k5,k6,k7⟩:=hb
 exact ofB8_lt 256 _ _ _ _ _ _ _ _ k0 k1 k2 k3 k4 k5 k6 k7 (Nat.le_refl _)
theorem ofB_sum8 {l:List Nat} (h:l.length=8) (hb:∀ a ∈ l,a < 103):ofB l / 16+ofB l < 18446744073709551616:=by
 obtain ⟨a,b,c,d,e,f,g,k,rfl⟩:=eight h
 simp only [List.mem_cons,List.not_mem_nil,or_false,forall_eq_or_imp,forall_eq] at hb
 obtain ⟨k0,k1,k2,k3,k4,k5,k6,k7⟩:=hb
 exact ofB8_sum _ _ _ _ _ _ _ _ k0 k1 k2 k3 k4 k5 k6 k7
def l1 (x:Nat):List Nat:=(bts 8 x).map s1
def l2 (x:Nat):List Nat:=(l1 x).map s2
def l3 (x:Nat):List Nat:=(l2 x).map s3
theorem l_len (x:Nat):(bts 8 x).length=8/\(l1 x).length=8/\(l2 x).length=8/\(l3 x).length=8:=by
 have:=bts_len 8 x
 simp [l1,l2,l3,this]
theorem l1_lt (x:Nat):∀ a ∈ l1 x,a < 256:=by
 intro a ha
 obtain ⟨c,hc,rfl⟩:=List.mem_map.1 ha
 exact (s1_low ⟨c,bts_lt 8 x c hc⟩ 0).2
theorem l2_lt (x:Nat):∀ a ∈ l2 x,a < 256/\a % 16<=6/\a / 16<=6:=by
 intro a ha
 obtain ⟨c,hc,rfl⟩:=List.mem_map.1 ha
 exact (s2_low ⟨c,l1_lt x c hc⟩ 0).2
theorem swA (x:Nat) (hx:x < 18446744073709551616):swarA x=ofB (l1 x):=by
 have e:=step1 (bts 8 x) (bts_lt 8 x)
 rw [msk8_85 (l_len x).1,ofB_bts 8 x (by simpa using hx)] at e
 rw [swarA_eq]
 exact e
theorem swB (x:Nat) (hx:x < 18446744073709551616):swarB (swarA x)=ofB (l2 x):=by
 have e:=step2 (l1 x) (l1_lt x)
 rw [msk8_51 (l_len x).2.1,<- swA x hx] at e
 rw [swarB_eq]
 exact e
theorem swC (x:Nat) (hx:x < 18446744073709551616):swarC (swarB (swarA x))=ofB (l3 x):=by
 have e:=step3 (l2 x) (fun a ha=>(l2_lt x a ha).2)
 rw [msk8_15 (l_len x).2.2.1,<- swB x hx] at e
 rw [swarC_eq]
 exact e
theorem l3_pop (x:Nat):l3 x=(bts 8 x).map (popN 8):=by
 unfold l3 l2 l1
 rw [List.map_map,List.map_map]
 exact List.map_congr_left fun b hb=>(pop_all ⟨b,bts_lt 8 x b hb⟩).1
theorem popN_sum (x:Nat) (hx:x < 18446744073709551616):popN 64 x=((bts 8 x).map (popN 8)).sum:=by
 have hp:=popN_bytes (bts 8 x) (bts_lt 8 x)
 rw [bts_len,ofB_bts 8 x (by simpa using hx)] at hp
 exact hp
theorem swar_bytes (x:Nat) (hx:x < 18446744073709551616):∃ p0 p1 p2 p3 p4 p5 p6 p7:Nat,p0<=8/\p1<=8/\p2<=8/\p3<=8/\p4<=8/\p5<=8/\p6<=8/\p7<=8 ∧
  swarA x < 18446744073709551616/\swarB (swarA x) < 18446744073709551616/\swarB (swarA x) / 16+swarB (swarA x) < 18446744073709551616 ∧
  swarC (swarB (swarA x))=p0+256 * p1+65536 * p2+16777216 * p3+4294967296 * p4+1099511627776 * p5+281474976710656 * p6+72057594037927936 * p7/\popN 64 x=p0+p1+p2+p3+p4+p5+p6+p7:=by
 obtain ⟨b0,b1,b2,b3,b4,b5,b6,b7,hl⟩:=eight (l_len x).1
 have q:∀ b ∈ bts 8 x,popN 8 b<=8:=fun b hb'=>(pop_all ⟨b,bts_lt 8 x b hb'⟩).2
 have c:=swC x hx
 have d:=popN_sum x hx
 rw [l3_pop] at c
 rw [hl] at q c d
 simp only [List.mem_cons,List.not_mem_nil,or_false,forall_eq_or_imp,forall_eq] at q
 obtain ⟨d0,d1,d2,d3,d4,d5,d6,d7⟩:=q
 refine ⟨popN 8 b0,popN 8 b1,popN 8 b2,popN 8 b3,popN 8 b4,popN 8 b5,popN 8 b6,popN 8 b7,d0,d1,d2,d3,d4,d5,d6,d7,?_,?_,?_,?_,?_⟩
 ·rw [swA x hx];exact ofB_lt8 (l_len x).2.1 (l1_lt x)
 ·rw [swB x hx];exact ofB_lt8 (l_len x).2.2.1 fun a ha=>(l2_lt x a ha).1
 ·rw [swB x hx];exact ofB_sum8 (l_len x).2.2.1 fun a ha=>lt103 (l2_lt x a ha).2
 ·rw [c]
  simp only [List.map_cons,List.map_nil]
  exact ofB8 _ _ _ _ _ _ _ _
 ·rw [d]
  simp only [List.map_cons,List.map_nil,List.sum_cons,List.sum_nil]
  generalize popN 8 b0=r0,popN 8 b1=r1,popN 8 b2=r2,popN 8 b3=r3,popN 8 b4=r4,popN 8 b5=r5,popN 8 b6=r6,popN 8 b7=r7
  omega
theorem tailA (p0 p1 p2 p3 p4 p5 p6 p7 y:Nat) (h0:p0<=8) (h1:p1<=8) (h2:p2<=8) (h3:p3<=8) (h4:p4<=8) (h5:p5<=8) (h6:p6<=8) (h7:p7<=8) (hy:y=p0+256 * p1+65536 * p2+16777216 * p3+4294967296 * p4+1099511627776 * p5+281474976710656 * p6+72057594037927936 * p7):y+y / 256 < 9000000000000000000/\y+y / 256=(p0+p1)+256 * (p1+p2)+65536 * (p2+p3)+16777216 * (p3+p4)+4294967296 * (p4+p5)+1099511627776 * (p5+p6)+281474976710656 * (p6+p7)+72057594037927936 * p7:=by
 have:y / 256=p1+256 * p2+65536 * p3+16777216 * p4+4294967296 * p5+1099511627776 * p6+281474976710656 * p7:=by omega
 omega
theorem tailB (q0 q1 q2 q3 q4 q5 q6 q7 y:Nat) (h0:q0<=16) (h1:q1<=16) (h2:q2<=16) (h3:q3<=16) (h4:q4<=16) (h5:q5<=16) (h6:q6<=16) (h7:q7<=16) (hy:y=q0+256 * q1+65536 * q2+16777216 * q3+4294967296 * q4+1099511627776 * q5+281474976710656 * q6+72057594037927936 * q7):y+y / 65536 < 9000000000000000000/\y+y / 65536=(q0+q2)+256 * (q1+q3)+65536 * (q2+q4)+16777216 * (q3+q5)+4294967296 * (q4+q6)+1099511627776 * (q5+q7)+281474976710656 * q6+72057594037927936 * q7:=by
 have:y / 65536=q2+256 * q3+65536 * q4+16777216 * q5+4294967296 * q6+1099511627776 * q7:=by omega
 omega
theorem tailC (q0 q1 q2 q3 q4 q5 q6 q7 y:Nat) (h0:q0<=32) (h1:q1<=32) (h2:q2<=32) (h3:q3<=32) (h4:q4<=32) (h5:q5<=32) (h6:q6<=32) (h7:q7<=32) (hy:y=q0+256 * q1+65536 * q2+16777216 * q3+4294967296 * q4+1099511627776 * q5+281474976710656 * q6+72057594037927936 * q7):y+y / 4294967296 < 9000000000000000000/\(y+y / 4294967296) % 128=q0+q4:=by
 have:y / 4294967296=q4+256 * q5+65536 * q6+16777216 * q7:=by omega
 omega
theorem swar_tail (p0 p1 p2 p3 p4 p5 p6 p7:Nat) (h0:p0<=8) (h1:p1<=8) (h2:p2<=8) (h3:p3<=8) (h4:p4<=8) (h5:p5<=8) (h6:p6<=8) (h7:p7<=8) (y a b c:Nat)
  (hy:y=p0+256 * p1+65536 * p2+16777216 * p3+4294967296 * p4+1099511627776 * p5+281474976710656 * p6+72057594037927936 * p7)
  (ha:a=y+y / 256) (hb:b=a+a / 65536) (hc:c=b+b / 4294967296):a < 9223372036854775808/\b < 9223372036854775808/\c < 9223372036854775808/\c % 128=p0+p1+p2+p3+p4+p5+p6+p7:=by
 obtain ⟨f1,e1⟩:=tailA p0 p1 p2 p3 p4 p5 p6 p7 y h0 h1 h2 h3 h4 h5 h6 h7 hy
 rw [<- ha] at e1 f1
 clear ha hy
 obtain ⟨f2,e2⟩:=tailB _ _ _ _ _ _ _ _ a (by omega) (by omega) (by omega) (by omega) (by omega) (by omega) (by omega) (by omega) e1
 rw [<- hb] at e2 f2
 clear hb e1
 obtain ⟨f3,e3⟩:=tailC _ _ _ _ _ _ _ _ b (by omega) (by omega) (by omega) (by omega) (by omega) (by omega) (by omega) (by omega) e2
 rw [<- hc] at e3 f3
 clear hc e2
 exact ⟨by omega,by omega,by omega,by omega⟩
theorem popN_bit (f i x:Nat):popN (f+1) (x / 2 ^ i)=x / 2 ^ i % 2+popN f (x / 2 ^ (i+1)):=by
 rw [popN,Nat.div_div_eq_div_mul,Nat.pow_succ]
def onesI (x:Int):Int:=(popN 64 (x % 18446744073709551616).toNat:Nat)
theorem u64_wrap (n:Nat) (h:n < 18446744073709551616):IntKind.u64.wrap (n:Int)=n:=by
 have:IntKind.u64.wrap (n:Int)=(n:Int) % 18446744073709551616:=by rfl
 rw [this];omega
theorem u64_and (a b:Nat) (ha:a < 18446744073709551616) (hb:b < 18446744073709551616):bits .and .u64 (a:Int) (b:Int)=((a &&& b:Nat):Int):=by
 have h:bits .and .u64 (a:Int) (b:Int)=IntKind.u64.wrap (((BitVec.ofInt 64 (a:Int) &&& BitVec.ofInt 64 (b:Int)).toNat:Nat):Int):=rfl
 have h2:(BitVec.ofInt 64 (a:Int) &&& BitVec.ofInt 64 (b:Int)).toNat=a &&& b:=by
  rw [BitVec.toNat_and,BitVec.ofInt_natCast,BitVec.ofInt_natCast,BitVec.toNat_ofNat,BitVec.toNat_ofNat,Nat.mod_eq_of_lt ha,Nat.mod_eq_of_lt hb]
 rw [h,h2,u64_wrap]
 exact Nat.lt_of_le_of_lt Nat.and_le_left ha
theorem i64_low (n:Nat):bits .and .i64 (n:Int) 127=((n % 128:Nat):Int):=by
 have h:bits .and .i64 (n:Int) 127=IntKind.i64.wrap (((BitVec.ofInt 64 (n:Int) &&& BitVec.ofInt 64 (127:Int)).toNat:Nat):Int):=rfl
 have h2:(BitVec.ofInt 64 (n:Int) &&& BitVec.ofInt 64 (127:Int)).toNat=n % 128:=by
  have h3:(BitVec.ofInt 64 (127:Int)).toNat=127:=by decide
  rw [BitVec.toNat_and,h3,BitVec.ofInt_natCast,BitVec.toNat_ofNat]
  have:=Nat.and_two_pow_sub_one_eq_mod (n % 2 ^ 64) 7
  rw [show (2:Nat) ^ 7 - 1=127 by decide] at this
  rw [this]
  omega
 rw [h,h2,IntKind.wrap_i64]
 omega
theorem divN (a b:Nat):(a:Int) / (b:Int)=((a / b:Nat):Int):=(Int.natCast_ediv a b).symm
theorem s64A (x:Nat) (hx:x < 18446744073709551616):IntKind.u64.wrap (bits .and .u64 ((x:Int) / 2) 6148914691236517205+bits .and .u64 (x:Int) 6148914691236517205)=(swarA x:Nat):=by
 obtain ⟨p0,p1,p2,p3,p4,p5,p6,p7,_,_,_,_,_,_,_,_,hA,_⟩:=swar_bytes x hx
 have e1:=u64_and (x / 2) 6148914691236517205 (by omega) (by omega)
 have e2:=u64_and x 6148914691236517205 hx (by omega)
 rw [show ((6148914691236517205:Nat):Int)=6148914691236517205 from rfl] at e1 e2
 rw [show (x:Int) / 2=((x / 2:Nat):Int) from divN x 2,e1,e2,<- Int.natCast_add,<- swarA_eq,u64_wrap _ hA]
theorem s64B (y:Nat) (hy:y < 18446744073709551616) (hB:swarB y < 18446744073709551616):IntKind.u64.wrap (bits .and .u64 ((y:Int) / 4) 3689348814741910323+bits .and .u64 (y:Int) 3689348814741910323)=(swarB y:Nat):=by
 have e1:=u64_and (y / 4) 3689348814741910323 (by omega) (by omega)
 have e2:=u64_and y 3689348814741910323 hy (by omega)
 rw [show ((3689348814741910323:Nat):Int)=3689348814741910323 from rfl] at e1 e2
 rw [show (y:Int) / 4=((y / 4:Nat):Int) from divN y 4,e1,e2,<- Int.natCast_add,<- swarB_eq,u64_wrap _ hB]
theorem s64C (z:Nat) (hz:z / 16+z < 18446744073709551616):bits .and .u64 (IntKind.u64.wrap ((z:Int) / 16+(z:Int))) 1085102592571150095=(swarC z:Nat):=by
 have e1:=u64_and (z / 16+z) 1085102592571150095 hz (by omega)
 rw [show ((1085102592571150095:Nat):Int)=1085102592571150095 from rfl] at e1
 rw [show (z:Int) / 16=((z / 16:Nat):Int) from divN z 16,<- Int.natCast_add,u64_wrap _ hz,e1,<- swarC_eq]
theorem s64s (z d:Nat) (h:z+z / d < 18446744073709551616):IntKind.u64.wrap ((z:Int)+(z:Int) / (d:Int))=((z+z / d:Nat):Int):=by
 rw [divN,<- Int.natCast_add,u64_wrap _ h]
theorem s64_end (x:Nat) (hx:x < 18446744073709551616) (c a b e:Nat) (hc:c=swarC (swarB (swarA x))) (ha:a=c+c / 256) (hb:b=a+a / 65536) (he:e=b+b / 4294967296) :
  a < 9223372036854775808/\b < 9223372036854775808/\e < 9223372036854775808/\e % 128=popN 64 x:=by
 obtain ⟨p0,p1,p2,p3,p4,p5,p6,p7,h0,h1,h2,h3,h4,h5,h6,h7,hA,hB,hS,hC,hP⟩:=swar_bytes x hx
 rw [hP]
 exact swar_tail p0 p1 p2 p3 p4 p5 p6 p7 h0 h1 h2 h3 h4 h5 h6 h7 c a b e (by rw [hc,hC]) ha hb he
theorem b_Ones64 (x:Nat) (w:World) (hx:x < 18446744073709551616):Calls Tryz.prog 218 #[.int .u64 x] w fun e w'=>e=.returned (.int .i64 (popN 64 x:Nat))/\w=w':=by
 have HX:=zH hx
 clear hx
 go_enter Tryz.func218,Tryz.ntmps218
 go_wp2_with fail
 go_ret
 refine ⟨ret_int ?_,rfl⟩
 have hx:=HX.out
 obtain ⟨p0,p1,p2,p3,p4,p5,p6,p7,_,_,_,_,_,_,_,_,hA,hB,hS,_,_⟩:=swar_bytes x hx
 obtain ⟨k1,k2,k3,k4⟩:=s64_end x hx _ _ _ _ rfl rfl rfl rfl
 have hC:swarC (swarB (swarA x)) < 18446744073709551616:=by omega
 have t1:=s64s (swarC (swarB (swarA x))) 256 (by omega)
 have t2:=s64s (swarC (swarB (swarA x))+swarC (swarB (swarA x)) / 256) 65536 (by omega)
 have t3:=s64s (swarC (swarB (swarA x))+swarC (swarB (swarA x)) / 256+(swarC (swarB (swarA x))+swarC (swarB (swarA x)) / 256) / 65536) 4294967296 (by omega)
 rw [show ((256:Nat):Int)=256 from rfl] at t1
 rw [show ((65536:Nat):Int)=65536 from rfl] at t2
 rw [show ((4294967296:Nat):Int)=4294967296 from rfl] at t3
 rw [s64A x hx,s64B _ hA hB,s64C _ hS,t1,t2,t3]
 generalize swarC (swarB (swarA x))+swarC (swarB (swarA x)) / 256+(swarC (swarB (swarA x))+swarC (swarB (swarA x)) / 256) / 65536+(swarC (swarB (swarA x))+swarC (swarB (swarA x)) / 256+(swarC (swarB (swarA x))+swarC (swarB (swarA x)) / 256) / 65536) / 4294967296=e at k3 k4
 have hw:wrap64 (e:Int)=e:=by unfold wrap64;omega
 rw [hw,i64_low,k4]
theorem b_Ones (x:Nat) (w:World) (hx:x < 18446744073709551616):Calls Tryz.prog 216 #[.int .u64 x] w fun e w'=>e=.returned (.int .i64 (popN 64 x:Nat))/\w=w':=by
 have HX:=zH hx
 clear hx
 go_enter Tryz.func216,Tryz.ntmps216
 go_wp2_with fail
 refine (b_Ones64 x _ HX.out).mono ?_
 rintro e w' ⟨rfl,rfl⟩
 go_wp2_with fail
 go_ret
 exact ⟨rfl,rfl⟩
theorem i_ones (x:Int) (w:World):Calls Tryz.prog 212 #[.int .i64 x] w fun e w'=>e=.returned (.int .i64 (onesI x))/\w=w':=by
 obtain ⟨n,hn,hw⟩:∃ n:Nat,n < 18446744073709551616/\IntKind.u64.wrap x=n/\popN 64 n=popN 64 (x % 18446744073709551616).toNat:=by
  refine ⟨(x % 18446744073709551616).toNat,by omega,?_,rfl⟩
  have:IntKind.u64.wrap x=x % 18446744073709551616:=by rfl
  rw [this];omega
 obtain ⟨hw,he⟩:=hw
 have HN:=zH hn
 have HE:=zH he
 clear hn he
 go_enter Tryz.func212,Tryz.ntmps212
 go_wp2_with fail
 refine (b_Ones n _ HN.out).mono ?_
 rintro e w' ⟨rfl,rfl⟩
 go_wp2_with fail
 go_ret
 exact ⟨ret_int (by rw [HE.out];rfl),rfl⟩
theorem and_one (a:Int):bits .and .i64 a 1=a % 2:=by
 have h:bits .and .i64 a 1=IntKind.i64.wrap (((BitVec.ofInt 64 a &&& BitVec.ofInt 64 (1:Int)).toNat:Nat):Int):=rfl
 have h2:(BitVec.ofInt 64 (1:Int)).toNat=1:=by decide
 have h3:(BitVec.ofInt 64 a &&& BitVec.ofInt 64 (1:Int)).toNat=(BitVec.ofInt 64 a).toNat % 2:=by
  rw [BitVec.toNat_and,h2,Nat.and_one_is_mod]
 have h4:(BitVec.ofInt 64 a).toNat=(a % 18446744073709551616).toNat:=by
  rw [BitVec.toNat_ofInt];rfl
 rw [h,IntKind.wrap_i64,h3,h4]
 omega
theorem shr_bit (x:Int) (k f:Nat):((popN (f+1) ((x % 18446744073709551616).toNat / 2 ^ k):Nat):Int)=((x % 18446744073709551616).toNat / 2 ^ k % 2:Nat)+(popN f ((x % 18446744073709551616).toNat / 2 ^ (k+1)):Nat):=by
 rw [popN_bit];omega
theorem bit_of (x:Int) (k:Nat) (hk:k < 64):(x / 2 ^ k) % 2=(((x % 18446744073709551616).toNat / 2 ^ k % 2:Nat):Int):=by
 obtain ⟨r,q,hr,h1⟩:∃ (r:Nat) (q:Int),(x % 18446744073709551616).toNat=r/\x=r+18446744073709551616 * q:=⟨_,x / 18446744073709551616,rfl,by omega⟩
 rw [hr]
 have h2:(18446744073709551616:Int)=2 * 2 ^ (63 - k) * 2 ^ k:=by
  rw [Int.mul_assoc,<- Int.pow_add,show 63 - k+k=63 by omega];rfl
 have h3:x=r+(2 * (2 ^ (63 - k) * q)) * 2 ^ k:=by
  rw [h1,h2]
  congr 1
  rw [Int.mul_assoc,Int.mul_assoc,Int.mul_assoc,Int.mul_comm (2 ^ k) q]
  rw [Int.mul_assoc]
 rw [h3,Int.add_mul_ediv_right _ _ (Int.pow_ne_zero (by omega)),Int.natCast_emod,Int.natCast_ediv,Int.natCast_pow]
 have h4:((2:Nat):Int)=2:=rfl
 rw [h4]
 omega
def cntTo (x:Int):Nat->Int
 |0=>0
 |k+1=>cntTo x k+(x / 2 ^ k) % 2
theorem cntTo_pop (x:Int):∀ k:Nat,k<=64->cntTo x k+(popN (64 - k) ((x % 18446744073709551616).toNat / 2 ^ k):Nat)=onesI x
 |0,_=>by simp [cntTo,onesI]
 |k+1,h=>by
  have ih:=cntTo_pop x k (by omega)
  obtain ⟨f,hf⟩:∃ f,64 - k=f+1:=⟨63 - k,by omega⟩
  rw [hf,shr_bit,<- bit_of x k (by omega)] at ih
  rw [show 64 - (k+1)=f by omega,cntTo]
  omega
theorem cntTo_bd (x:Int):∀ k:Nat,0<=cntTo x k/\cntTo x k<=k
 |0=>by simp [cntTo]
 |k+1=>by
  have:=cntTo_bd x k
  rw [cntTo]
  omega
theorem s_ones (x:Int) (w:World):Calls Tryz.prog 211 #[.int .i64 x] w fun e w'=>e=.returned (.int .i64 (onesI x))/\w=w':=by
 go_enter Tryz.func211,Tryz.ntmps211
 go_wp2_with fail
 go_loop [3,4] (fun n i=>∃ k:Nat,k<=64/\i=.int .i64 k/\n=.int .i64 (cntTo x k)) (fun _ i=>64 - (intOf i).toNat)
 case atStart=>exact ⟨0,by omega,rfl,rfl⟩
 case round =>
  obtain ⟨k,hk,rfl,rfl⟩:=hrel
  have hb:=cntTo_bd x k
  by_cases hlt:k < 64
  ·have h1:=and_one (x / 2 ^ k)
   have h2:0<=(x / 2 ^ k) % 2/\(x / 2 ^ k) % 2<=1:=by omega
   have HC:Hid (cntTo x (k+1)=cntTo x k+(x / 2 ^ k) % 2):=zH rfl
   generalize (x / 2 ^ k) % 2=z at h1 h2 HC
   go_wp2_with fail
   go_round
   case rel=>exact ⟨k+1,by omega,by go_num,by rw [HC.out]⟩
   case measure=>simp [intOf];omega
  ·obtain rfl:k=64:=by omega
   have HC:Hid (cntTo x 64=onesI x):=zH (by have:=cntTo_pop x 64 (by omega);simpa [popN] using this)
   go_wp2_with fail
   go_ret
   exact ⟨ret_int HC.out,rfl⟩
end Go.Proofs.YtmenmibfkojnoaaGreat
