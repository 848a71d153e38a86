/- CE, part I: a function without arguments that was run, as a contract. Conditions: none. -/
import Derived.Test.YtddeffoppnlafaaGreatKCEh
import Derived.Test.YtddeffoppnlafaaGreatKTEc
namespace Go.aK
open Go
theorem lO.a{P:Program}{G:aR}{f:FuncId}{args:List aC}{σ cU:Heap}{n bL:Nat}{r:aC}(h:lO P G f args σ n r cU bL):eJ P G f args σ n fun iP _=>iP=r:=by
 intro w β ro dJ ab ae aw aM bn
 refine Calls.mono (h w β ro dJ ab ae aw aM bn) fun e w' aG=>?_
 obtain⟨v,cK,ro',rfl,cl,dW,jI⟩:=aG
 exact⟨v,r,cU,cK,ro',bL,rfl,rfl,cl,dW,jI⟩
theorem fw.true{P:Program}{G:aR}{e:fw}(h:e.ok P G)(ab:e.xs=[])(ae:e.h=[])(aw:e.n=0)(aM:e.r= .ad (.v (.bool true))):eF P G e.f ⟨[],[.bool],none,fun _=>Bool.true⟩:=fun x _=>by
 have h:=lO.a h
 rw[ab,ae,aw,aM]at h
 exact h
end Go.aK
