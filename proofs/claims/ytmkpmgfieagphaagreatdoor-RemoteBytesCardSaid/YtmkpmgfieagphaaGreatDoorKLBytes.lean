/- The law RemoteBytes in plain Lean. Conditions: none. -/
import Derived.Test.YtmkpmgfieagphaaGreatDoorKLq
namespace Go.aK
open Go Go.eK
theorem Xo{q:bs}(aH:pJ q)(s:ByteArray):OK q s:=by
 refine⟨fun _=>BK,fun ai=>?_⟩
 have aq:dw s:=by
  simp only[Bool.or_eq_false_iff,decide_eq_false_iff_not]at ai;unfold dw;omega
 exact⟨OL aq,Xp aq,OM aH,Xq aH,fun _=>BK⟩
theorem Xr{q:bs}(aH:pJ q)(s:ByteArray):BL q s=true:=by
 unfold BL
 rw[ON]
 dsimp only
 cases ai:(((((decide ((ByteArray.size s:Int)>25000))||(decide ((ByteArray.size q.text:Int)>25000)))||(decide ((ByteArray.size q.name:Int)>1000)))||(decide ((ByteArray.size q.key.dk:Int)>1000)))||(decide ((ByteArray.size q.key.attr:Int)>1000)))||(decide ((ByteArray.size q.value.s:Int)>1000))with
 |true=>rfl
 |false=>
  have aq:dw s:=by
   simp only[Bool.or_eq_false_iff,decide_eq_false_iff_not]at ai;unfold dw;omega
  rw[Xs aq,Xt aq,Xu aH]
  have e:cM .eql (ox q) (ox q)=true:=OO _
  simp only[cond_false,e,OO,beq_self_eq_true,cond_true,Bool.and_self]
theorem Xv: ∀x,(∀d∈dx pK.ps x,tV d)→kO pK.pre x∧kP pK.rs (pK.m x)=pL true:=by
 intro x h
 have hx:pJ x.1:=Xw (h _ (List.mem_of_getElem? (i:=0) rfl))
 refine⟨Xo hx x.2,?_⟩
 show pL (BL x.1 x.2)=pL true
 rw[Xr hx]
end Go.aK
