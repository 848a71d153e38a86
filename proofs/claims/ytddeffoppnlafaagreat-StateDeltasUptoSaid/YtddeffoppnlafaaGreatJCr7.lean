/- Conditions: none. -/
import Derived.Test.YtddeffoppnlafaaGreatJCk
import Derived.Test.YtddeffoppnlafaaGreatJCrd
import Derived.Test.YtddeffoppnlafaaGreatJCr0
import Derived.Test.YtddeffoppnlafaaGreatJCr1
import Derived.Test.YtddeffoppnlafaaGreatJCr3
import Derived.Test.YtddeffoppnlafaaGreatJCr4
import Derived.Test.YtddeffoppnlafaaGreatJCr5
import Derived.Test.YtddeffoppnlafaaGreatJCr6
namespace Go.aH
open Go
def zeD:fV:=⟨6,[],[],0,.ad (bO true),[],2181⟩
theorem zc1:zeD.ok iT lq:=fV.oy (k:=jX nO (mF [UB,UC,UE,Ni,Nj,UK,UL,UM,UN,UO])) (ds:=oD) (ky oE (nL (λe he=>by
 simp only[List.mem_cons,List.not_mem_nil,or_false]at he
 rcases he with rfl|rfl|rfl|rfl|rfl|rfl|rfl|rfl|rfl|rfl
 ·exact zer
 ·exact zes
 ·exact zeu
 ·exact UH
 ·exact UI
 ·exact zey
 ·exact zez
 ·exact zeA
 ·exact zeB
 ·exact zeC))) 2000 (by kernel_rfl)
end Go.aH
