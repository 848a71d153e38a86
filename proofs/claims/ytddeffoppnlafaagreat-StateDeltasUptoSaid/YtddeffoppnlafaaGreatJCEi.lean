/- Conditions: none. -/
import Derived.Test.YtddeffoppnlafaaGreatJCEh
import Derived.Test.YtddeffoppnlafaaGreatJTEc
namespace Go.aH
open Go
theorem m6.a{P:Program}{G:aV}{f:FuncId}{args:List aC}{σ cZ:bK}{n b0:Nat}{r:aC}(h:m6 P G f args σ n r cZ b0):fa P G f args σ n λji _=>ji=r:=by
 intro w β ro dY aa ae aw aN bx;refine Calls.mono (h w β ro dY aa ae aw aN bx) λe w' aB=>?_;obtain⟨v,cS,ro',rfl,cB,eN,mG⟩:=aB;exact⟨v,r,cZ,cS,ro',b0,rfl,rfl,cB,eN,mG⟩
theorem fV.true{P:Program}{G:aV}{e:fV}(h:e.ok P G)(aa:e.xs=[])(ae:e.h=[])(aw:e.n=0)(aN:e.r= .ad (.v (.bool true))):eU P G e.f ⟨[],[.bool],none,λ_=>Bool.true⟩:=λx _=>by
 have h:=m6.a h;rw[aa,ae,aw,aN]at h;exact h
end Go.aH
