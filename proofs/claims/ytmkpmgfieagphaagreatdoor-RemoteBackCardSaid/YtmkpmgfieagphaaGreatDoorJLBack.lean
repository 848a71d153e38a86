/- The law RemoteBack in plain Lean. Conditions: none. -/
import Derived.Test.YtmkpmgfieagphaaGreatDoorJLs
namespace Go.aM
open Go Go.eQ
theorem Wd(x:bK):(bif x.kind==x.kind then bif x.de==x.de then bif x.key.dev==x.key.dev then bif dw x.key.cU x.key.cU then bif dw x.key.attr x.key.attr then bif dw x.name x.name then bif x.value.kind==x.value.kind then bif x.value.n==x.value.n then bif dw x.value.s x.value.s then dw x.text x.text else false else false else false else false else false else false else false else false else false)=true:=by
 simp[oy]
theorem We(h:Home){q:bK}(aJ:l2 q)(s:ByteArray):Od h q s:=by
 refine⟨fun _=>FE,fun ai=>?_⟩
 simp only[Bool.or_eq_false_iff,decide_eq_false_iff_not]at ai
 obtain⟨⟨aa,ae⟩,au⟩:=ai
 have ar:dG s:=by unfold dG;omega
 have J:(tM s)∧(((hE s).2 != 0)=true→(((hE s).2 != 0)||(cq .eql (⟨#[]⟩:ByteArray) s))=true→nD)∧(((hE s).2 != 0)=false→(vD (hE s).1)∧((((hE s).2 != 0)||(cq .eql (ky (hE s).1) s))=true→nD)):=
  ⟨FF ar,fun _ _=>FE,fun _=>⟨FG (by rw[FH ar];exact Oe s),fun _=>FE⟩⟩
 exact⟨Wf (by omega) (by omega) q,fun _=>⟨FG aJ,FF (FI aJ),fun _=>J⟩,fun _=>J⟩
theorem Wh(h:Home){q:bK}(aJ:l2 q)(s:ByteArray):Bq h q s=true:=by
 unfold Bq
 rw[Wi]
 dsimp only
 cases ai:(((decide ((List.length h.bl:Int)>300))||(decide ((List.length h.bn:Int)>60)))||(decide ((ByteArray.size s:Int)>25000)))with
 |true=>rfl
 |false=>
  simp only[Bool.or_eq_false_iff,decide_eq_false_iff_not]at ai
  have ar:dG s:=by unfold dG;omega
  simp only[cond_false]
  have J:(bif(hE s).2 != 0 then(bif(((hE s).2 != 0)||(cq .eql (⟨#[]⟩:ByteArray) s))then((((hE s).2 != 0)||(cq .eql (⟨#[]⟩:ByteArray) s))&&true)else((((hE s).2 != 0)||(cq .eql (⟨#[]⟩:ByteArray) s))&&false))else
   (bif(((hE s).2 != 0)||(cq .eql (ky (hE s).1) s))then((((hE s).2 != 0)||(cq .eql (ky (hE s).1) s))&&true)else((((hE s).2 != 0)||(cq .eql (ky (hE s).1) s))&&false)))=true:=by
   rw[FH ar]
   cases he:((pM s).2 != 0)with
   |true=>rfl
   |false=>
    have e:cq .eql s s=true:=Wj _
    rw[Wk (oz he),e];rfl
  rw[J]
  cases hc:(tN h q==0)with
  |false=>rfl
  |true=>
   have ah:=Wl aJ (by simpa using hc)
   rw[FH (FI aJ),Wm ah];simp only[cond_true,Wd];rfl
theorem Wn: ∀x,(∀d∈dz pN.ps x,vE d)→lp pN.pre x∧lq pN.rs (pN.m x)=tO true:=by
 intro x h
 have hx:l2 x.2.1:=Wo (h _ (List.mem_of_getElem? (i:=1) rfl))
 refine⟨We x.1 hx x.2.2,?_⟩
 show tO (Bq x.1 x.2.1 x.2.2)=tO true
 rw[Wh x.1 hx]
end Go.aM
