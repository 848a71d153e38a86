/- A closed run, call by call. Conditions: none. -/
import Derived.Test.YtddeffoppnlafaaGreatKCk
import Derived.Test.YtddeffoppnlafaaGreatKCrd
namespace Go.aK
open Go
def R0:fw:=⟨63,[.ptr 1 0],[(2,.box 29 [.ad (aa (0)),.ad (ak #[100,97,121]),.ad (ax),.ad (ax),.ad (ax),.ad (ax),.ad (ak #[]),.ad (ax),.ad (aa (0)),.ad (ax)]),(1,.box 130 [.ad (ak #[10,0,0,4,10,2,97,2,120,2,0,0,10,2,97,2,121,4,0,0,0,0,0,1,0,0,2,6,97,110,110,8,0,0,0,0,82,114,117,108,101,32,114,32,123,32,111,110,32,115,116,97,114,116,59,32,100,111,32,115,101,116,32,53,46,97,46,120,32,61,32,116,114,117,101,59,32,125,0,2,0]),.ad (aa (0)),.ad (bB true)]),(0,.box 29 [.ad (aa (0)),.ad (ak #[]),.ad (ax),.ad (ax),.ad (ax),.ad (ax),.ad (ak #[]),.ad (ax),.ad (aa (0)),.ad (ax)])],3,.agg [.ad (aa (5)),.ad (aa (0)),.ad (aa (0)),.aq 20,.ad (ax),.ad (aa (0)),.ad (aa (0)),.ad (aa (-1)),.ad (aa (0))],[(20,.row false 68 7 [[aa (5),ak #[97],ak #[120],aa (1),aa (0),ak #[],aa (0)],[aa (5),ak #[97],ak #[121],aa (2),aa (0),ak #[],aa (0)]]),(2,.box 29 [.ad (aa (0)),.ad (ak #[100,97,121]),.ad (ax),.ad (ax),.ad (ax),.ad (ax),.ad (ak #[]),.ad (ax),.ad (aa (0)),.ad (ax)]),(1,.box 130 [.ad (ak #[0,2,6,97,110,110,8,0,0,0,0,82,114,117,108,101,32,114,32,123,32,111,110,32,115,116,97,114,116,59,32,100,111,32,115,101,116,32,53,46,97,46,120,32,61,32,116,114,117,101,59,32,125,0,2,0]),.ad (aa (0)),.ad (bB true)]),(0,.box 29 [.ad (aa (0)),.ad (ak #[]),.ad (ax),.ad (ax),.ad (ax),.ad (ax),.ad (ak #[]),.ad (ax),.ad (aa (0)),.ad (ax)])],21⟩
theorem zao:R0.ok h7 kj:=fw.mU (k:=je mm (lj [])) (ds:=mY) (jG mZ (mj (fun e he=>by simp at he))) 2000 (by kernel_rfl)
def R1:fw:=⟨7,[.ad Fc],[],0,.tuple [.agg [.ad (aa (0)),.ad (ak #[100,97,121]),.aq 23,.ad (ax),.aq 28,.ad (ax),.ad br,.ad (ax),.ad (aa (1)),.ad (ax)],.ad (aa (0))],[(28,.row false 47 5 [[ak #[97,110,110],aa (4),ax,ax,bB false]]),(23,.row false 44 9 [[aa (5),aa (0),aa (0),.aq 7 [[aa (5),ak #[97],ak #[120],aa (1),aa (0),ak #[],aa (0)],[aa (5),ak #[97],ak #[121],aa (2),aa (0),ak #[],aa (0)]],ax,aa (0),aa (0),aa (-1),aa (0)]])],29⟩
theorem zap:R1.ok h7 kj:=fw.mU (k:=je mm (lj [R0])) (ds:=mY) (jG mZ (mj (fun e he=>by
 simp only[List.mem_cons,List.not_mem_nil,or_false]at he
 rcases he with rfl
 ·exact zao))) 2000 (by kernel_rfl)
end Go.aK
