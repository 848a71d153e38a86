/- A closed run, call by call. Conditions: none. -/
import Derived.Test.YtddeffoppnlafaaGreatKCk
import Derived.Test.YtddeffoppnlafaaGreatKCrd
import Derived.Test.YtddeffoppnlafaaGreatKCr0
import Derived.Test.YtddeffoppnlafaaGreatKCr1
import Derived.Test.YtddeffoppnlafaaGreatKCr3
import Derived.Test.YtddeffoppnlafaaGreatKCr4
import Derived.Test.YtddeffoppnlafaaGreatKCr5
import Derived.Test.YtddeffoppnlafaaGreatKCr6
namespace Go.aK
open Go
def zay:fw:=⟨6,[],[],0,.ad (bB true),[],2181⟩
theorem YW:zay.ok h7 kj:=fw.mU (k:=je mm (lj [RY,RZ,R1,J1,J2,R7,R8,R9,Sa,Sb])) (ds:=mY) (jG mZ (mj (fun e he=>by
 simp only[List.mem_cons,List.not_mem_nil,or_false]at he
 rcases he with rfl|rfl|rfl|rfl|rfl|rfl|rfl|rfl|rfl|rfl
 ·exact zam
 ·exact zan
 ·exact zap
 ·exact R4
 ·exact R5
 ·exact zat
 ·exact zau
 ·exact zav
 ·exact zaw
 ·exact zax))) 2000 (by kernel_rfl)
end Go.aK
