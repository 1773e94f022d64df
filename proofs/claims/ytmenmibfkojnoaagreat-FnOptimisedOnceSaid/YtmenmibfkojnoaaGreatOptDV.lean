/- Contracts of DrawBestRewrite and DrawOptimizeGates: any list of at most 64 gates, any number. -/
import Derived.Test.YtmenmibfkojnoaaGreatV31
set_option maxHeartbeats 16000000
namespace Go.Proofs.YtmenmibfkojnoaaGreat
open Go.RowKit
set_option linter.unusedVariables false
theorem s_DrawBestRewrite (A:Option Addr) (n cap:Nat) (zs:List Int) (w:World) (h:RdB w A n zs) (hz:∀ z ∈ zs,0<=z/\z<=255) (hn:n<=1048576) :
  Calls Tryz.prog 18 #[.slice A n cap] w (RetAR w):=by
 have H:=zH h
 have HZ:=zH hz
 clear h hz
 go_enter Tryz.func18,Tryz.ntmps18
 go_wp2_with fail
 refine (s_l35Args A n cap 10 zs _ H.out HZ.out hn (by omega)).mono ?_
 rintro e w1 ⟨A2,n2,c2,gs,N,rfl,hl,h5,o1,b1⟩
 have OO:=zH o1
 have BB:=zH b1
 have HL:=zH hl
 clear o1 b1 hl
 go_wp2_with fail
 go_ret2
 exact ⟨A2,n2,c2,gs,N,rfl,HL.out,h5,OO.out,BB.out⟩
theorem s_DrawOptimizeGates (A:Option Addr) (n cap:Nat) (zs:List Int) (w:World) (h:RdB w A n zs) (hz:∀ z ∈ zs,0<=z/\z<=255) (hn:n<=1048576) :
  Calls Tryz.prog 24 #[.slice A n cap] w (RetAR w):=by
 have H:=zH h
 have HZ:=zH hz
 clear h hz
 go_enter Tryz.func24,Tryz.ntmps24
 go_wp2_with fail
 refine (s_l35Args A n cap 10 zs _ H.out HZ.out hn (by omega)).mono ?_
 rintro e w1 ⟨A2,n2,c2,gs,N,rfl,hl,h5,o1,b1⟩
 have OO:=zH o1
 have BB:=zH b1
 have HL:=zH hl
 clear o1 b1 hl
 go_wp2_with fail
 go_ret2
 exact ⟨A2,n2,c2,gs,N,rfl,HL.out,h5,OO.out,BB.out⟩
end Go.Proofs.YtmenmibfkojnoaaGreat
