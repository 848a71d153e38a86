/- The law RemoteChecks in plain Lean. Conditions: none. -/
import Derived.Test.YtmkpmgfieagphaaGreatDoorKLq
namespace Go.aK
open Go Go.eK
theorem Xx(h:Home)(q:bs):OP h q:=by
 refine⟨fun aw=>⟨fun _ gP _=>BK,fun gP=>?_⟩,fun aw=>⟨OQ h q,fun gP=>?_,fun _=>⟨?_,fun _ _=>BK⟩⟩⟩
 ·rw[aw]at gP;cases gP
 ·rw[aw]at gP;cases gP
 ·simp only[Bool.or_eq_false_iff,decide_eq_false_iff_not]at aw
  exact Xy (by omega) (by omega) q
theorem Xz(h:Home)(q:bs):BM h q=true:=by
 unfold BM
 rw[XA,ON]
 dsimp only
 generalize ((decide ((List.length h.bp:Int)>300))||(decide ((List.length h.bl:Int)>60)))=A
 have e:(mL h q==mL h q)=true:=by simp
 cases A<;>simp only[cond_true,cond_false,e]<;>rfl
theorem XB: ∀x,(∀d∈dx pM.ps x,tV d)→kO pM.pre x∧kP pM.rs (pM.m x)=pL true:=by
 intro x _
 refine⟨Xx x.1 x.2,?_⟩
 show pL (BM x.1 x.2)=pL true
 rw[Xz]
end Go.aK
