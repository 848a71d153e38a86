/- The law RemoteChecks in plain Lean. Conditions: none. -/
import Derived.Test.YtmkpmgfieagphaaGreatDoorKLq
namespace Go.aL
open Go Go.eL
theorem Xy(h:Home)(q:bu):OQ h q:=by
 refine⟨fun aw=>⟨fun _ gQ _=>BL,fun gQ=>?_⟩,fun aw=>⟨OR h q,fun gQ=>?_,fun _=>⟨?_,fun _ _=>BL⟩⟩⟩
 ·rw[aw]at gQ;cases gQ
 ·rw[aw]at gQ;cases gQ
 ·simp only[Bool.or_eq_false_iff,decide_eq_false_iff_not]at aw
  exact Xz (by omega) (by omega) q
theorem XA(h:Home)(q:bu):BN h q=true:=by
 unfold BN
 rw[XB,OO]
 dsimp only
 generalize ((decide ((List.length h.bq:Int)>300))||(decide ((List.length h.bm:Int)>60)))=A
 have e:(mM h q==mM h q)=true:=by simp
 cases A<;>simp only[cond_true,cond_false,e]<;>rfl
theorem XC: ∀x,(∀d∈dy pN.ps x,tW d)→kP pN.pre x∧kQ pN.rs (pN.m x)=pM true:=by
 intro x _
 refine⟨Xy x.1 x.2,?_⟩
 show pM (BN x.1 x.2)=pM true
 rw[XA]
end Go.aL
