/- Conditions: none. -/
import Derived.Test.YtddeffoppnlafaaGreatJCk
import Derived.Test.YtddeffoppnlafaaGreatJCrd
namespace Go.aH
open Go
def UD:fV:=⟨63,[.ptr 1 0],[(2,.box 29 [.ad (ab 0),.ad (ak #[100,97,121]),.ad ay,.ad ay,.ad ay,.ad ay,.ad (ak #[]),.ad ay,.ad (ab 0),.ad ay]),(1,.box 130 [.ad (ak #[10,0,0,4,10,2,97,2,120,2,0,0,10,2,97,2,121,4,0,0,0,0,0,1,0,0,2,6,97,110,110,8,0,0,0,0,82,114,117,108,101,32,114,32,123,32,111,110,32,115,116,97,114,116,59,32,100,111,32,115,101,116,32,53,46,97,46,120,32,61,32,116,114,117,101,59,32,125,0,2,0]),.ad (ab 0),.ad (bO true)]),(0,.box 29 [.ad (ab 0),.ad (ak #[]),.ad ay,.ad ay,.ad ay,.ad ay,.ad (ak #[]),.ad ay,.ad (ab 0),.ad ay])],3,.agg [.ad (ab 5),.ad (ab 0),.ad (ab 0),.aq 20,.ad ay,.ad (ab 0),.ad (ab 0),.ad (ab (-1)),.ad (ab 0)],[(20,.row false 68 7 [[ab 5,ak #[97],ak #[120],ab 1,ab 0,ak #[],ab 0],[ab 5,ak #[97],ak #[121],ab 2,ab 0,ak #[],ab 0]]),(2,.box 29 [.ad (ab 0),.ad (ak #[100,97,121]),.ad ay,.ad ay,.ad ay,.ad ay,.ad (ak #[]),.ad ay,.ad (ab 0),.ad ay]),(1,.box 130 [.ad (ak #[0,2,6,97,110,110,8,0,0,0,0,82,114,117,108,101,32,114,32,123,32,111,110,32,115,116,97,114,116,59,32,100,111,32,115,101,116,32,53,46,97,46,120,32,61,32,116,114,117,101,59,32,125,0,2,0]),.ad (ab 0),.ad (bO true)]),(0,.box 29 [.ad (ab 0),.ad (ak #[]),.ad ay,.ad ay,.ad ay,.ad ay,.ad (ak #[]),.ad ay,.ad (ab 0),.ad ay])],21⟩
theorem zet:UD.ok iT lq:=fV.oy (k:=jX nO (mF [])) (ds:=oD) (ky oE (nL (λe he=>by simp at he))) 2000 (by kernel_rfl)
def UE:fV:=⟨7,[.ad A4],[],0,.tuple [.agg [.ad (ab 0),.ad (ak #[100,97,121]),.aq 23,.ad ay,.aq 28,.ad ay,.ad bA,.ad ay,.ad (ab 1),.ad ay],.ad (ab 0)],[(28,.row false 47 5 [[ak #[97,110,110],ab 4,ay,ay,bO false]]),(23,.row false 44 9 [[ab 5,ab 0,ab 0,.aq 7 [[ab 5,ak #[97],ak #[120],ab 1,ab 0,ak #[],ab 0],[ab 5,ak #[97],ak #[121],ab 2,ab 0,ak #[],ab 0]],ay,ab 0,ab 0,ab (-1),ab 0]])],29⟩
theorem zeu:UE.ok iT lq:=fV.oy (k:=jX nO (mF [UD])) (ds:=oD) (ky oE (nL (λe he=>by
 simp only[List.mem_cons,List.not_mem_nil,or_false]at he
 rcases he with rfl
 ·exact zet))) 2000 (by kernel_rfl)
end Go.aH
