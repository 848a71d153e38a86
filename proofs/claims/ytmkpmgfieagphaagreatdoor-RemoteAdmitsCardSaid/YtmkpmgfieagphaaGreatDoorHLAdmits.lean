/- RemoteAdmits. Conditions: none. -/
import Derived.Test.YtmkpmgfieagphaaGreatDoorHLzc
namespace Go.aN
open Go Go.eg
theorem Yf{x:Case}(aq:x.members.length≤9223372036854775807)(tU:v7 x.kS):Qc x:=by
 refine⟨Yg aq,fun _=>GU,fun ah=>?_⟩
 obtain⟨⟨g1,g2⟩,hm,hw,aH,_⟩:=Qd ah
 exact⟨Cw hm (by omega) aH,Yh ⟨g1,g2⟩ hm tU (by omega) aH (Yi (by show x.c.home.bq.length≤_;omega) (by show x.c.home.a8.length≤_;omega) _),fun _=>⟨Yj _ _,fun _=>GU⟩,fun _ _=>GU⟩
theorem Yk{x:Case}(tU:v7 x.kS):Cx x=true:=by
 unfold Cx
 rw[Yl,Ym,Yn]
 dsimp only
 cases ah:tV x with
 |true=>rfl
 |false=>
  obtain⟨_,hm,hw,aH,_⟩:=Qd ah;rw[Yo tU (by omega) aH,Yp]
  generalize l8 x.c x.members x.kS x.oF x.a x.now x.hb=v;rw[hZ,decide_eq_true rfl,beq_self_eq_true];rfl
theorem Yq: ∀x,(∀d∈dE pU.ps x,sq d)→lz pU.pre x∧lA pU.rs (pU.m x)=tW true:=by
 intro x h
 have hc:sq ⟨.st .Case,x⟩:=h _ (List.mem_of_getElem? (i:=0) rfl)
 refine⟨Yf (Yr hc) (Qe hc),?_⟩
 show tW (Cx x)=tW true
 rw[Yk (Qe hc)]
end Go.aN
