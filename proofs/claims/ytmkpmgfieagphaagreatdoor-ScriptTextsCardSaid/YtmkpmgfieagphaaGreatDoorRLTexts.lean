/- The law ScriptTexts in plain Lean. Conditions: none. -/
import Derived.Test.YtmkpmgfieagphaaGreatDoorRLokA
import Derived.Test.YtmkpmgfieagphaaGreatDoorRLw
namespace Go.aM
open Go Go.ed
theorem Tp{l:List aK}(h:s3 ⟨.li .aK,l⟩): ∀a∈l,hM a:=by
 have h:kO ⟨.li .aK,l⟩:=h
 cases h
 rename_i aa ad
 exact fun a aI=>Tq (ad a aI)
theorem small{l:List aK}{x:ByteArray}(h:((decide ((List.length l:Int)>100))||(decide ((ByteArray.size x:Int)>6000)))=false):l.length≤100∧fS x:=by
 simp only[Bool.or_eq_false_iff,decide_eq_false_iff_not]at h
 exact⟨by omega,show x.size≤6000 by omega⟩
theorem reads{x:ByteArray}(hx:fS x):m20 x=m21 x:=by
 have fZ:x.size≤6000:=hx
 rw[Tr (by omega),Ts hx]
theorem Tt{l:List aK}{x:ByteArray}(h: ∀a∈l,hM a):va l x:=by
 refine⟨fun _=>Lv,fun ag=>?_⟩
 obtain⟨aa,ad⟩:=small ag
 refine⟨Tu h aa,Tv h aa,Lx x,Tw ad,?_⟩
 intro jE ay
 have dG: ∀b,ay b:=fun b _=>Lv
 refine⟨fun _=>⟨?_,dG _⟩,fun _=>dG _⟩
 show xt (m20 x).1 (m21 x).1
 rw[reads ad]
 exact Tx _
theorem Ty{l:List aK}{x:ByteArray}(h: ∀a∈l,hM a):m5 l x=true:=by
 unfold m5
 rw[Tz]
 cases ag:((decide ((List.length l:Int)>100))||(decide ((ByteArray.size x:Int)>6000)))with
 |true=>rfl
 |false=>
  obtain⟨aa,ad⟩:=small ag;rw[TA h,reads ad]
  have e:a8 .eql (m19 l).1 (m19 l).1=true:=xu _
  simp only[cond_false,e,beq_self_eq_true,TB,Bool.and_self,cond_true]
theorem TC: ∀x,(∀d∈dn o6.ps x,s3 d)→my o6.pre x∧lq o6.rs (o6.m x)=kk true:=by
 intro x h
 have hx: ∀a∈x.1,hM a:=Tp (h _ (List.mem_of_getElem? (i:=0) rfl))
 refine⟨Tt hx,?_⟩
 show kk (m5 x.1 x.2)=kk true
 rw[Ty hx]
end Go.aM
