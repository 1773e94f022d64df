/- Contract of sameGates at equal lists. At most 2^40 gates. -/
import Derived.Test.YtmenmibfkojnoaaGreatV04
import Derived.Test.YtmenmibfkojnoaaGreatV02
import Derived.StillTailTactics
import Derived.Outline
import Derived.Deep.RegionHeld3
set_option maxHeartbeats 16000000
namespace Go.Proofs.YtmenmibfkojnoaaGreat
open Go.RowKit
theorem eqGateV (k a b c k' a' b' c':Int) (w:World):(Op.equalIn 10000 39 (.agg #[.int .i64 k,.int .i64 a,.int .i64 b,.int .i64 c]) (.agg #[.int .i64 k',.int .i64 a',.int .i64 b',.int .i64 c'])).run Tryz.prog w=.ok (k == k' && (a == a' && (b == b' && c == c'))) w:=by
 have u3:=Tryz.underlying3
 have a3:=Tryz.isAgg3
 have z3:=Tryz.sizeOf3
 have hS:Tryz.prog.underlying 39=some (.struct (Tryz.prog.fieldsOf 39)):=by kernel_rfl
 rw [show (10000:Nat)=9999+1 from rfl,run_equalIn_agg w 9999 39 _ _ hS (by kernel_rfl)]
 simp only [Program.fieldsOf,Tryz.underlying39]
 go_simp
 by_cases h1:k=k'<;>by_cases h2:a=a'<;>by_cases h3:b=b'<;>by_cases h4:c=c'<;>simp [h1,h2,h3,h4]
set_option maxRecDepth 100000 in
theorem l_sameGates_same (A A':Option Addr) (n c c':Nat) (gs:List Gt) (w:World) (h:RdG w A n gs) (h':RdG w A' n gs) (hn:n<=1099511627776) :
  Calls Tryz.prog 19 #[.slice A n c,.slice A' n c'] w fun e w'=>e=.returned (.bool true)/\Below w.heap.size w w':=by
 have H:=zH h
 have H':=zH h'
 clear h h'
 go_enter Tryz.func19,Tryz.ntmps19
 go_wp2
 go_loopg [5] n (fun m i wr=>∃ k:Nat,k+m=n/\i=.int .i64 k/\Below w.heap.size w wr)
 case atStart=>exact ⟨0,by omega,rfl,zW⟩
 case round =>
  obtain ⟨k,hk,rfl,hb⟩:=hrel
  by_cases hlt:k < n
  ·obtain ⟨b,off,g,rfl,hB,hd,c0,c1,c2,c3⟩:=(H.out.below hb).at_ hlt
   obtain ⟨b',off',g',rfl,hB',hd',c0',c1',c2',c3'⟩:=(H'.out.below hb).at_ hlt
   obtain rfl:g=g':=by rw [hd] at hd';injection hd'
   clear hd hd'
   have hi0:(0:Int)<=(k:Int):=by omega
   have hi1:(k:Int) < (n:Int):=by omega
   have hE:∀ w,(Op.equalIn 10000 39 (.agg #[.int .i64 g.k,.int .i64 g.a,.int .i64 g.b,.int .i64 g.c]) (.agg #[.int .i64 g.k,.int .i64 g.a,.int .i64 g.b,.int .i64 g.c])).run Tryz.prog w=.ok true w:=fun w=>by rw [eqGateV];simp
   have hM:Tryz.prog.eqGuardType Tryz.prog.depth 39=false:=by kernel_rfl
   go_wp2_with fail
   go_quiet (fail)
   go_wp2
   go_roundg (gk - 1)
   case measure=>omega
   case rel=>exact ⟨k+1,by omega,by go_num,⟨hb.os,hb.tape,hb.output,hb.size,hb.block⟩⟩
  ·go_wp2
   go_ret
   exact ⟨rfl,hb⟩
end Go.Proofs.YtmenmibfkojnoaaGreat
