/- The law RemoteBytes in plain Lean. Conditions: none. -/
import Derived.Test.YtmkpmgfieagphaaGreatDoorKLq
namespace Go.aL
open Go Go.eL
theorem Xp{q:bu}(aI:pK q)(s:ByteArray):OL q s:=by
 refine⟨fun _=>BL,fun ai=>?_⟩
 have aq:dx s:=by
  simp only[Bool.or_eq_false_iff,decide_eq_false_iff_not]at ai;unfold dx;omega
 exact⟨OM aq,Xq aq,ON aI,Xr aI,fun _=>BL⟩
theorem Xs{q:bu}(aI:pK q)(s:ByteArray):BM q s=true:=by
 unfold BM
 rw[OO]
 dsimp only
 cases ai:(((((decide ((ByteArray.size s:Int)>25000))||(decide ((ByteArray.size q.text:Int)>25000)))||(decide ((ByteArray.size q.name:Int)>1000)))||(decide ((ByteArray.size q.key.dm:Int)>1000)))||(decide ((ByteArray.size q.key.attr:Int)>1000)))||(decide ((ByteArray.size q.value.s:Int)>1000))with
 |true=>rfl
 |false=>
  have aq:dx s:=by
   simp only[Bool.or_eq_false_iff,decide_eq_false_iff_not]at ai;unfold dx;omega
  rw[Xt aq,Xu aq,Xv aI]
  have e:cN .eql (oy q) (oy q)=true:=OP _
  simp only[cond_false,e,OP,beq_self_eq_true,cond_true,Bool.and_self]
theorem Xw: ∀x,(∀d∈dy pL.ps x,tW d)→kP pL.pre x∧kQ pL.rs (pL.m x)=pM true:=by
 intro x h
 have hx:pK x.1:=Xx (h _ (List.mem_of_getElem? (i:=0) rfl))
 refine⟨Xp hx x.2,?_⟩
 show pM (BM x.1 x.2)=pM true
 rw[Xs hx]
end Go.aL
